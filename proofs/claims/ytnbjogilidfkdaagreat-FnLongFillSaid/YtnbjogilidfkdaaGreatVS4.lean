/- Contracts: one step of the machine of modes, many steps, places: the reference. -/
import Derived.Test.YtnbjogilidfkdaaGreatVS6
import Derived.Test.YtnbjogilidfkdaaGreatVS0
import Derived.Test.YtnbjogilidfkdaaGreatVX1

namespace Go.Proofs.YtnbjogilidfkdaaGreat
attribute [local irreducible] awp arun acalm FinP Fin AX.then AX.inBlock Again aG gsel amix amixN amixC aop aopc aopd cutK
attribute [local go_sem] aBSliceD aSlice aSliceC boundOf aMk aCall aCallC aLenL aLen aPick_t aPick_f aNil aAlloc aBox aBuild bldPV aBSlice bsPV aApp newsOf destOf drp aConvX aConv aConvInt aLoad cellsAt aStore cellsPV setAt aFld aField aIdx aIndex aUn aBin' aBin aMax aExtract pvOf PV.isCell nmbL PV.nmb List.map_cons List.map_nil List.all_cons List.all_nil Bool.and_true Bool.true_and if_true if_false List.getD_cons_zero List.getD_cons_succ List.getD_nil Option.isSome_some true_and and_true and_self eq_self true_or or_true List.drop_zero List.drop_succ_cons List.drop_nil List.take_zero List.take_succ_cons List.take_nil List.length_cons List.length_nil List.length_map Option.getD_some Option.getD_none List.nil_append List.cons_append List.append_nil Option.some.injEq exists_eq_left' List.getElem?_cons_zero List.getElem?_cons_succ Int.toNat_natCast Int.natCast_inj toNat_succ Nat.zero_add res res1 resC owns owns1 ownsC List.flatMap_cons List.flatMap_nil List.flatten_cons List.flatten_nil List.mem_cons List.not_mem_nil or_false false_or forall_eq forall_eq_or_imp isFro frz frz1 pureC tabA isBld List.cons.injEq PV.seq.injEq PV.int.injEq PV.str.injEq PV.bool.injEq PV.agg.injEq inR tab Γof aRes packR Option.map_some Option.map_none rel Prod.exists exists_and_left exists_eq_left and_assoc beq_self_eq_true Bool.not_true Bool.not_false decide_true decide_false List.set_cons_zero List.set_cons_succ rst_nil rst_cons
attribute [local go_sem ↓] evT upd_def aop aopc aopd
set_option maxRecDepth 100000
set_option linter.unusedVariables false
set_option linter.unusedSimpArgs false
open Go.RowKit
def lvS4_135:Nat→List Nat
 | 0=>[1,2,4]
 | 1=>[1,2,4,5]
 | 2=>[1,2,4,5,9]
 | 3=>[4]
 | 4=>[1,2,4,5,11]
 | 5=>[4]
 | 6=>[1,2,4,5,20]
 | 7=>[4]
 | 8=>[1,2,4,5,34]
 | 9=>[4]
 | 10=>[1,2,4,5,39]
 | 11=>[4]
 | 12=>[1,2,4,5,51]
 | 13=>[4]
 | 14=>[1,2,4,5,60]
 | 15=>[4]
 | 16=>[1,2,4,5,69]
 | 17=>[4]
 | 18=>[1,2,4,5,89]
 | 19=>[4]
 | 20=>[1,2,4,5,100]
 | 21=>[4]
 | 22=>[1,2,4,5,123]
 | 23=>[4]
 | 24=>[1,2,4,5,137]
 | 25=>[4]
 | 26=>[1,2,4,5,144]
 | 27=>[4]
 | 28=>[4]
 | _=>[]
def lvS4_153:Nat→List Nat
 | 0=>[1,2,4]
 | 1=>[1,2,4,5]
 | 2=>[4]
 | 3=>[1,2,4,14]
 | 4=>[4]
 | 5=>[1,2,4,23]
 | 6=>[4]
 | 7=>[1,2,4,32]
 | 8=>[4]
 | 9=>[1,2,4,41]
 | 10=>[4]
 | 11=>[1,4,50]
 | 12=>[4]
 | 13=>[1,4,60]
 | 14=>[4]
 | 15=>[4,64]
 | 16=>[4]
 | 17=>[4]
 | _=>[]
--LV=S4
set_option maxHeartbeats 8000000 in
theorem script_s:PureOk Tryz.prog 153 (sbC (fun s=>stV s=true∧(s.mode=11∨s.mode=12∨s.mode=13∨s.mode=14)) stepV):=by
 refine pure_rel 2 tab_nil mixed [.cell 4 48] Tryz.func153 rfl rfl (by kernel_rfl) (by kernel_rfl) (fun _=>rfl) (by kernel_rfl) ?_
 rintro ⟨⟨m,t,a,b⟩,c⟩ K ⟨h1,h2,hv,h4⟩ hK
 dsimp only at *
 obtain ⟨c,rfl⟩:=byte_of h1 (by omega)
 rw [ofI_nat] at hK
 obtain ⟨hl1,hl2⟩:=stV_len hv
 have g0:= @stV_tag0 _ hv
 have g1:= @stV_attr0 _ hv
 have g2:= @stV_seen0 _ hv
 have g3:= @stV_seen8 _ hv
 have hbn:=bare_nm c
 have hnm:nmByte c=(isLet c || isDig c || decide (c.toNat=45)):=rfl
 obtain ⟨q1,q2⟩:=cls_byte c
 dsimp only at hl1 hl2 g0 g1 g2 g3
 clear hv
 rcases h4 with rfl|rfl|rfl|rfl
 · have e0:=g0 (by decide)
   have e1:=g1 (by decide)
   have e2:=g2 (by decide)
   subst e0 e1 e2
   clear g0 g1 g2 g3
   rw [stepV_11 rfl] at hK
   unfold entry
   repeat' (first|((first|apply qwd|apply qa1|apply qa2|apply qh1|apply qg1 rfl|apply qcd);(try intro K hk);focus (simp only [lvS4_153,mkT,go_sem,Nat.reduceEqDiff,Nat.reduceAdd,Nat.reduceLeDiff,Nat.reduceLT,↓reduceIte,reduceCtorEq,encS_eq,List.length_cons,List.length_nil,Int.reduceEq,decide_false,Bool.and_true];first|exact rfl|((repeat refine ai ?_);intros;apply hk;clear hk K)))|apply qw1|refine qwc lvS4_153 ?_|apply qt1|apply qw5|apply qw2|apply qt3|apply qt4|apply qt6|apply qw4|apply qj1|apply qj2|apply qj4|apply qu1|(refine qj6 ?_ ?_<;>intro hc<;>(try simp only [hc])<;>(try simp only [decide_eq_true_eq,decide_eq_false_iff_not] at hc)<;>(try (exfalso;omega))))
   all_goals
    ((first|refine fin_ret ?_|refine fin_end ?_);simp only [go_sem,↓upd_def,Nat.reduceAdd,↓reduceIte])
    refine ⟨by omega,K_eq hK ?_⟩
    clear hK
    try rw [moreS_t (by decide)]
    try rw [moreS_a (by omega)]
    (repeat' split)<;>first|rfl|(exfalso;omega)|(exfalso;simp_all;done)|(exfalso;simp_all;omega)|(simp_all;done)
 · have e0:=g0 (by decide)
   have e1:=g1 (by decide)
   have e2:=g2 (by decide)
   subst e0 e1 e2
   clear g0 g1 g2 g3
   rw [stepV_12 rfl] at hK
   unfold entry
   repeat' (first|((first|apply qwd|apply qa1|apply qa2|apply qh1|apply qg1 rfl|apply qcd);(try intro K hk);focus (simp only [lvS4_153,mkT,go_sem,Nat.reduceEqDiff,Nat.reduceAdd,Nat.reduceLeDiff,Nat.reduceLT,↓reduceIte,reduceCtorEq,encS_eq,List.length_cons,List.length_nil,Int.reduceEq,decide_true,decide_false,Bool.and_true];first|exact rfl|((repeat refine ai ?_);intros;apply hk;clear hk K)))|apply qw1|refine qwc lvS4_153 ?_|apply qt1|apply qw5|apply qt3|apply qt6|apply qw4|apply qj1|apply qj3|apply qj4|apply qu1|(refine qj6 ?_ ?_<;>intro hc<;>(try simp only [hc])<;>(try simp only [decide_eq_true_eq,decide_eq_false_iff_not,Bool.not_eq_true',Bool.not_eq_false'] at hc)<;>(try (exfalso;omega))))
   all_goals
    ((first|refine fin_ret ?_|refine fin_end ?_);simp only [go_sem,↓upd_def,Nat.reduceAdd,↓reduceIte])
    refine ⟨by omega,K_eq hK ?_⟩
    clear hK
    try rw [moreS_t (by decide)]
    try rw [moreS_a (by omega)]
    (repeat' split)<;>first|rfl|(exfalso;omega)|(exfalso;simp_all;done)|(exfalso;simp_all;omega)|(simp_all;done)
 · have e0:=g0 (by decide)
   have e1:=g1 (by decide)
   have e2:=g2 (by decide)
   subst e0 e1 e2
   clear g0 g1 g2 g3
   rw [stepV_13 rfl] at hK
   unfold entry
   repeat' (first|((first|apply qwd|apply qa1|apply qa2|apply qh1|apply qg1 rfl|apply qcd);(try intro K hk);focus (simp only [lvS4_153,mkT,go_sem,Nat.reduceEqDiff,Nat.reduceAdd,Nat.reduceLeDiff,Nat.reduceLT,↓reduceIte,reduceCtorEq,encS_eq,List.length_cons,List.length_nil,Int.reduceEq,decide_true,decide_false,Bool.and_true];first|exact rfl|((repeat refine ai ?_);intros;apply hk;clear hk K)))|apply qw1|refine qwc lvS4_153 ?_|apply qt1|apply qw5|apply qt3|apply qt6|apply qw4|apply qj1|apply qj2|apply qj4|apply qu1|(refine qj6 ?_ ?_<;>intro hc<;>(try simp only [hc])<;>(try simp only [decide_eq_true_eq,decide_eq_false_iff_not,Bool.not_eq_true',Bool.not_eq_false'] at hc)<;>(try (exfalso;omega))))
   all_goals
    ((first|refine fin_ret ?_|refine fin_end ?_);simp only [go_sem,↓upd_def,Nat.reduceAdd,↓reduceIte])
    refine ⟨by omega,K_eq hK ?_⟩
    clear hK
    try rw [moreS_t (by decide)]
    try rw [moreS_a (by omega)]
    (repeat' split)<;>first|rfl|(exfalso;omega)|(exfalso;simp_all;done)|(exfalso;simp_all;omega)|(simp_all;done)
 · have e0:=g0 (by decide)
   have e1:=g1 (by decide)
   have e2:=g2 (by decide)
   subst e0 e1 e2
   clear g0 g1 g2 g3
   rw [stepV_14 rfl] at hK
   unfold entry
   repeat' (first|((first|apply qwd|apply qa1|apply qa2|apply qh1|apply qg1 rfl|apply qcd);(try intro K hk);focus (simp only [lvS4_153,mkT,go_sem,Nat.reduceEqDiff,Nat.reduceAdd,Nat.reduceLeDiff,Nat.reduceLT,↓reduceIte,reduceCtorEq,encS_eq,List.length_cons,List.length_nil,Int.reduceEq,decide_true,decide_false,Bool.and_true];first|exact rfl|((repeat refine ai ?_);intros;apply hk;clear hk K)))|apply qw1|refine qwc lvS4_153 ?_|apply qt1|apply qw5|apply qw2|apply qt3|apply qt4|apply qt6|apply qw4|apply qj1|apply qj2|apply qj4|apply qu1|(refine qj6 ?_ ?_<;>intro hc<;>(try simp only [hc])<;>(try simp only [decide_eq_true_eq,decide_eq_false_iff_not] at hc)<;>(try (exfalso;omega))))
   all_goals
    ((first|refine fin_ret ?_|refine fin_end ?_);simp only [go_sem,↓upd_def,Nat.reduceAdd,↓reduceIte])
    refine ⟨by omega,K_eq hK ?_⟩
    clear hK
    try rw [moreS_t (by decide)]
    try rw [moreS_a (by omega)]
    (repeat' split)<;>first|rfl|(exfalso;omega)|(exfalso;simp_all;done)|(exfalso;simp_all;omega)|(simp_all;done)
set_option maxHeartbeats 8000000 in
theorem step_s:PureOk Tryz.prog 135 (sbC okS step):=by
 refine pure_rel 2 (tab_cons sv_s (tab_cons let_s (tab_cons nmb_s (tab_cons in_s (tab_cons more_s (tab_cons value_s (tab_cons tag_s (tab_cons script_s tab_nil)))))))) mixed [.cell 4 48] Tryz.func135 rfl rfl (by kernel_rfl) (by kernel_rfl) (fun _=>rfl) (by kernel_rfl) ?_
 rintro ⟨⟨m,t,a,b⟩,c⟩ K ⟨h1,h2,hok⟩ hK
 dsimp only at *
 obtain ⟨c,rfl⟩:=byte_of h1 (by omega)
 rw [ofI_nat] at hK
 cases hv:stV ⟨m,t,a,b⟩ with
 | false =>
   rw [step_bad' hv] at hK
   unfold entry
   repeat' (first|((first|apply qwd|apply qa1|apply qa2|apply qcd);(try intro K hk);focus (simp only [lvS4_135,mkT,go_sem,Nat.reduceEqDiff,Nat.reduceAdd,Nat.reduceLeDiff,Nat.reduceLT,↓reduceIte,reduceCtorEq,encS_eq,ex_St,List.length_cons,List.length_nil,Bool.not_false,Bool.and_true,hv];first|exact rfl|((repeat refine ai ?_);intros;apply hk;clear hk K)))|apply qw1|refine qwc lvS4_135 ?_|apply qt1|apply qt3|apply qw4|apply qj1)
   ((first|refine fin_ret ?_|refine fin_end ?_);simp only [go_sem,↓upd_def,Nat.reduceAdd,↓reduceIte])
   exact ⟨by omega,hK⟩
 | true =>
 rw [step_val hv] at hK
 obtain ⟨hl1,hl2⟩:=stV_len hv
 have g0:= @stV_tag0 _ hv
 have g1:= @stV_attr0 _ hv
 have g2:= @stV_seen0 _ hv
 have g3:= @stV_seen8 _ hv
 have hbn:=bare_nm c
 have hnm:nmByte c=(isLet c || isDig c || decide (c.toNat=45)):=rfl
 obtain ⟨q1,q2⟩:=cls_byte c
 dsimp only at hl1 hl2 g0 g1 g2 g3
 have hmo:=modes hv
 dsimp only at hmo
 rcases hmo with rfl|rfl|(rfl|rfl|rfl|rfl)|rfl|rfl|rfl|rfl|rfl|rfl|rfl|rfl|rfl|rfl
 · have e0:=g0 (by decide)
   have e1:=g1 (by decide)
   have e2:=g2 (by decide)
   subst e0 e1 e2
   clear g0 g1 g2 g3
   rw [stepV_0 rfl] at hK
   unfold entry
   repeat' (first|((first|apply qwd|apply qa1|apply qa2|apply qh1|apply qg1 rfl|apply qcd);(try intro K hk);focus (simp only [lvS4_135,mkT,go_sem,Nat.reduceEqDiff,Nat.reduceAdd,Nat.reduceLeDiff,Nat.reduceLT,↓reduceIte,reduceCtorEq,encS_eq,ex_St,List.length_cons,List.length_nil,decide_true,Bool.not_true,Bool.and_true,hv];first|exact rfl|((repeat refine ai ?_);intros;apply hk;clear hk K)))|apply qw1|refine qwc lvS4_135 ?_|apply qt1|apply qw5|apply qw2|apply qt3|apply qt6|apply qw4|apply qj1|apply qj3|apply qj4|apply qj5|apply qu1|(refine qj6 ?_ ?_<;>intro hc<;>(try simp only [hc])<;>(try simp only [decide_eq_true_eq,decide_eq_false_iff_not] at hc)<;>(try (exfalso;omega))))
   all_goals
    ((first|refine fin_ret ?_|refine fin_end ?_);simp only [go_sem,↓upd_def,Nat.reduceAdd,↓reduceIte])
    refine ⟨by omega,K_eq hK ?_⟩
    clear hK
    try rw [moreS_t (by decide)]
    try rw [moreS_a (by omega)]
    (repeat' split)<;>first|rfl|(exfalso;omega)|(exfalso;simp_all;done)|(exfalso;simp_all;omega)|(simp_all;done)
 · have e0:=g0 (by decide)
   have e1:=g1 (by decide)
   have e2:=g2 (by decide)
   subst e0 e1 e2
   clear g0 g1 g2 g3
   rw [stepV_1 rfl] at hK
   unfold entry
   repeat' (first|((first|apply qwd|apply qa1|apply qa2|apply qh1|apply qg1 rfl|apply qcd);(try intro K hk);focus (simp only [lvS4_135,mkT,go_sem,Nat.reduceEqDiff,Nat.reduceAdd,Nat.reduceLeDiff,Nat.reduceLT,↓reduceIte,reduceCtorEq,encS_eq,ex_St,List.length_cons,List.length_nil,ofI_nat,Int.reduceEq,Int.reduceLE,decide_true,decide_false,Bool.not_true,Bool.and_true,hv];first|exact rfl|((repeat refine ai ?_);intros;apply hk;clear hk K)))|apply qw1|refine qwc lvS4_135 ?_|apply qt1|apply qw5|apply qw2|apply qt3|apply qt4|apply qt6|apply qw4|apply qj1|apply qj2|apply qj4|apply qj5|apply qu1|(refine qj6 ?_ ?_<;>intro hc<;>(try simp only [hc])<;>(try simp only [decide_eq_true_eq,decide_eq_false_iff_not] at hc)<;>(try (exfalso;omega))))
   all_goals
    ((first|refine fin_ret ?_|refine fin_end ?_);simp only [go_sem,↓upd_def,Nat.reduceAdd,↓reduceIte])
    refine ⟨by omega,K_eq hK ?_⟩
    clear hK
    try rw [moreS_t (by decide)]
    try rw [moreS_a (by omega)]
    (repeat' split)<;>first|rfl|(exfalso;omega)|(exfalso;simp_all;done)|(exfalso;simp_all;omega)|(simp_all;done)
 · clear g0 g1 g2 g3
   unfold entry
   repeat' (first|((first|apply qwd|apply qa1|apply qa2|apply qh1|apply qg1 rfl|apply qcd);(try intro K hk);focus (simp only [lvS4_135,mkT,go_sem,Nat.reduceEqDiff,Nat.reduceAdd,Nat.reduceLeDiff,Nat.reduceLT,↓reduceIte,reduceCtorEq,encS_eq,ex_St,List.length_cons,List.length_nil,ofI_nat,Int.reduceEq,Int.reduceLE,decide_true,decide_false,Bool.not_true,Bool.and_true,hv];first|exact rfl|((repeat refine ai ?_);intros;apply hk;clear hk K)))|apply qw1|refine qwc lvS4_135 ?_|apply qt1|apply qw5|apply qw2|apply qt3|apply qt6|apply qw4|apply qj1|apply qj2|apply qj4|apply qj5|apply qu1)
   all_goals
    ((first|refine fin_ret ?_|refine fin_end ?_);simp only [go_sem,↓upd_def,Nat.reduceAdd,↓reduceIte])
    exact ⟨by omega,hK⟩
 · clear g0 g1 g2 g3
   unfold entry
   repeat' (first|((first|apply qwd|apply qa1|apply qa2|apply qh1|apply qg1 rfl|apply qcd);(try intro K hk);focus (simp only [lvS4_135,mkT,go_sem,Nat.reduceEqDiff,Nat.reduceAdd,Nat.reduceLeDiff,Nat.reduceLT,↓reduceIte,reduceCtorEq,encS_eq,ex_St,List.length_cons,List.length_nil,ofI_nat,Int.reduceEq,Int.reduceLE,decide_true,decide_false,Bool.not_true,Bool.and_true,hv];first|exact rfl|((repeat refine ai ?_);intros;apply hk;clear hk K)))|apply qw1|refine qwc lvS4_135 ?_|apply qt1|apply qw5|apply qw2|apply qt3|apply qt6|apply qw4|apply qj1|apply qj2|apply qj4|apply qj5|apply qu1)
   all_goals
    ((first|refine fin_ret ?_|refine fin_end ?_);simp only [go_sem,↓upd_def,Nat.reduceAdd,↓reduceIte])
    exact ⟨by omega,hK⟩
 · clear g0 g1 g2 g3
   unfold entry
   repeat' (first|((first|apply qwd|apply qa1|apply qa2|apply qh1|apply qg1 rfl|apply qcd);(try intro K hk);focus (simp only [lvS4_135,mkT,go_sem,Nat.reduceEqDiff,Nat.reduceAdd,Nat.reduceLeDiff,Nat.reduceLT,↓reduceIte,reduceCtorEq,encS_eq,ex_St,List.length_cons,List.length_nil,ofI_nat,Int.reduceEq,Int.reduceLE,decide_true,decide_false,Bool.not_true,Bool.and_true,hv];first|exact rfl|((repeat refine ai ?_);intros;apply hk;clear hk K)))|apply qw1|refine qwc lvS4_135 ?_|apply qt1|apply qw5|apply qw2|apply qt3|apply qt6|apply qw4|apply qj1|apply qj2|apply qj4|apply qj5|apply qu1)
   all_goals
    ((first|refine fin_ret ?_|refine fin_end ?_);simp only [go_sem,↓upd_def,Nat.reduceAdd,↓reduceIte])
    exact ⟨by omega,hK⟩
 · clear g0 g1 g2 g3
   unfold entry
   repeat' (first|((first|apply qwd|apply qa1|apply qa2|apply qh1|apply qg1 rfl|apply qcd);(try intro K hk);focus (simp only [lvS4_135,mkT,go_sem,Nat.reduceEqDiff,Nat.reduceAdd,Nat.reduceLeDiff,Nat.reduceLT,↓reduceIte,reduceCtorEq,encS_eq,ex_St,List.length_cons,List.length_nil,ofI_nat,Int.reduceEq,Int.reduceLE,decide_true,decide_false,Bool.not_true,Bool.and_true,hv];first|exact rfl|((repeat refine ai ?_);intros;apply hk;clear hk K)))|apply qw1|refine qwc lvS4_135 ?_|apply qt1|apply qw5|apply qw2|apply qt3|apply qt6|apply qw4|apply qj1|apply qj2|apply qj4|apply qj5|apply qu1)
   all_goals
    ((first|refine fin_ret ?_|refine fin_end ?_);simp only [go_sem,↓upd_def,Nat.reduceAdd,↓reduceIte])
    exact ⟨by omega,hK⟩
 · clear g0 g1 g2 g3
   unfold entry
   repeat' (first|((first|apply qwd|apply qa1|apply qa2|apply qh1|apply qg1 rfl|apply qcd);(try intro K hk);focus (simp only [lvS4_135,mkT,go_sem,Nat.reduceEqDiff,Nat.reduceAdd,Nat.reduceLeDiff,Nat.reduceLT,↓reduceIte,reduceCtorEq,encS_eq,ex_St,List.length_cons,List.length_nil,ofI_nat,Int.reduceEq,Int.reduceLE,decide_true,decide_false,Bool.not_true,Bool.and_true,hv];first|exact rfl|((repeat refine ai ?_);intros;apply hk;clear hk K)))|apply qw1|refine qwc lvS4_135 ?_|apply qt1|apply qw5|apply qw2|apply qt3|apply qt6|apply qw4|apply qj1|apply qj2|apply qj4|apply qj5|apply qu1)
   all_goals
    ((first|refine fin_ret ?_|refine fin_end ?_);simp only [go_sem,↓upd_def,Nat.reduceAdd,↓reduceIte])
    exact ⟨by omega,hK⟩
 · clear g0 g1 g2 g3
   rw [stepV_6 rfl] at hK
   unfold entry
   repeat' (first|((first|apply qwd|apply qa1|apply qa2|apply qh1|apply qg1 rfl|apply qcd);(try intro K hk);focus (simp only [lvS4_135,mkT,go_sem,Nat.reduceEqDiff,Nat.reduceAdd,Nat.reduceLeDiff,Nat.reduceLT,↓reduceIte,reduceCtorEq,encS_eq,ex_St,List.length_cons,List.length_nil,Int.reduceEq,decide_true,decide_false,Bool.not_true,Bool.and_true,hv];first|exact rfl|((repeat refine ai ?_);intros;apply hk;clear hk K)))|apply qw1|refine qwc lvS4_135 ?_|apply qt1|apply qw5|apply qw2|apply qt3|apply qt6|apply qw4|apply qj1|apply qj2|apply qj3|apply qj4|apply qj5|apply qu1|(refine qj6 ?_ ?_<;>intro hc<;>(try simp only [hc])<;>(try simp only [decide_eq_true_eq,decide_eq_false_iff_not] at hc)<;>(try (exfalso;omega))))
   all_goals
    ((first|refine fin_ret ?_|refine fin_end ?_);simp only [go_sem,↓upd_def,Nat.reduceAdd,↓reduceIte])
    refine ⟨by omega,K_eq hK ?_⟩
    clear hK
    try rw [moreS_t (by decide)]
    try rw [moreS_a (by omega)]
    (repeat' split)<;>first|rfl|(exfalso;omega)|(exfalso;simp_all;done)|(exfalso;simp_all;omega)|(simp_all;done)
 · clear g0 g1 g2 g3
   rw [stepV_7 rfl] at hK
   unfold entry
   repeat' (first|((first|apply qwd|apply qa1|apply qa2|apply qh1|apply qg1 rfl|apply qcd);(try intro K hk);focus (simp only [lvS4_135,mkT,go_sem,Nat.reduceEqDiff,Nat.reduceAdd,Nat.reduceLeDiff,Nat.reduceLT,↓reduceIte,reduceCtorEq,encS_eq,ex_St,List.length_cons,List.length_nil,Int.reduceEq,decide_true,decide_false,Bool.not_true,Bool.and_true,hv];first|exact rfl|((repeat refine ai ?_);intros;apply hk;clear hk K)))|apply qw1|refine qwc lvS4_135 ?_|apply qt1|apply qw5|apply qw2|apply qt3|apply qt6|apply qw4|apply qj1|apply qj2|apply qj4|apply qu1|(refine qj6 ?_ ?_<;>intro hc<;>(try simp only [hc])<;>(try simp only [decide_eq_true_eq,decide_eq_false_iff_not] at hc)<;>(try (exfalso;omega))))
   all_goals
    ((first|refine fin_ret ?_|refine fin_end ?_);simp only [go_sem,↓upd_def,Nat.reduceAdd,↓reduceIte])
    refine ⟨by omega,K_eq hK ?_⟩
    clear hK
    try rw [moreS_t (by decide)]
    try rw [moreS_a (by omega)]
    (repeat' split)<;>first|rfl|(exfalso;omega)|(exfalso;simp_all;done)|(exfalso;simp_all;omega)|(simp_all;done)
 · have e1:=g1 (by decide)
   have e2:=g2 (by decide)
   subst e1 e2
   clear g0 g1 g2 g3
   rw [stepV_9 rfl] at hK
   unfold entry
   repeat' (first|((first|apply qwd|apply qa1|apply qa2|apply qh1|apply qg1 rfl|apply qcd);(try intro K hk);focus (simp only [lvS4_135,mkT,go_sem,Nat.reduceEqDiff,Nat.reduceAdd,Nat.reduceLeDiff,Nat.reduceLT,↓reduceIte,reduceCtorEq,encS_eq,ex_St,List.length_cons,List.length_nil,ofI_nat,Int.reduceEq,Int.reduceLE,decide_true,decide_false,Bool.not_true,Bool.and_true,Bool.and_false,hv];first|exact rfl|((repeat refine ai ?_);intros;apply hk;clear hk K)))|apply qw1|refine qwc lvS4_135 ?_|apply qt1|apply qw5|apply qw2|apply qt3|apply qt4|apply qt6|apply qw4|apply qj1|apply qj2|apply qj3|apply qj4|apply qj5|apply qu1|(refine qj6 ?_ ?_<;>intro hc<;>(try simp only [hc])<;>(try simp only [decide_eq_true_eq,decide_eq_false_iff_not,Bool.not_eq_true',Bool.not_eq_false'] at hc)<;>(try (exfalso;omega))))
   all_goals
    ((first|refine fin_ret ?_|refine fin_end ?_);simp only [go_sem,↓upd_def,Nat.reduceAdd,↓reduceIte])
    refine ⟨by omega,K_eq hK ?_⟩
    clear hK
    try rw [moreS_t (by decide)]
    try rw [moreS_a (by omega)]
    (repeat' split)<;>first|rfl|(exfalso;omega)|(exfalso;simp_all;done)|(exfalso;simp_all;omega)|(simp_all;done)
 · have e0:=g0 (by decide)
   have e1:=g1 (by decide)
   have e2:=g2 (by decide)
   subst e0 e1 e2
   clear g0 g1 g2 g3
   rw [stepV_10 rfl] at hK
   unfold entry
   repeat' (first|((first|apply qwd|apply qa1|apply qa2|apply qh1|apply qg1 rfl|apply qcd);(try intro K hk);focus (simp only [lvS4_135,mkT,go_sem,Nat.reduceEqDiff,Nat.reduceAdd,Nat.reduceLeDiff,Nat.reduceLT,↓reduceIte,reduceCtorEq,encS_eq,ex_St,List.length_cons,List.length_nil,Int.reduceEq,decide_true,decide_false,Bool.not_true,Bool.and_true,hv];first|exact rfl|((repeat refine ai ?_);intros;apply hk;clear hk K)))|apply qw1|refine qwc lvS4_135 ?_|apply qt1|apply qw5|apply qw2|apply qt3|apply qt6|apply qw4|apply qj1|apply qj2|apply qj4|apply qu1|(refine qj6 ?_ ?_<;>intro hc<;>(try simp only [hc])<;>(try simp only [decide_eq_true_eq,decide_eq_false_iff_not] at hc)<;>(try (exfalso;omega))))
   all_goals
    ((first|refine fin_ret ?_|refine fin_end ?_);simp only [go_sem,↓upd_def,Nat.reduceAdd,↓reduceIte])
    refine ⟨by omega,K_eq hK ?_⟩
    clear hK
    try rw [moreS_t (by decide)]
    try rw [moreS_a (by omega)]
    (repeat' split)<;>first|rfl|(exfalso;omega)|(exfalso;simp_all;done)|(exfalso;simp_all;omega)|(simp_all;done)
 · clear g0 g1 g2 g3
   unfold entry
   repeat' (first|((first|apply qwd|apply qa1|apply qa2|apply qh1|apply qg1 rfl|apply qcd);(try intro K hk);focus (simp only [lvS4_135,mkT,go_sem,Nat.reduceEqDiff,Nat.reduceAdd,Nat.reduceLeDiff,Nat.reduceLT,↓reduceIte,reduceCtorEq,encS_eq,ex_St,List.length_cons,List.length_nil,ofI_nat,Int.reduceEq,Int.reduceLE,decide_true,decide_false,Bool.not_true,Bool.and_true,Bool.and_false,hv];first|exact rfl|((repeat refine ai ?_);intros;apply hk;clear hk K)))|apply qw1|refine qwc lvS4_135 ?_|apply qt1|apply qw5|apply qw2|apply qt3|apply qt6|apply qw4|apply qj1|apply qj2|apply qj4|apply qj5|apply qu1)
   all_goals
    ((first|refine fin_ret ?_|refine fin_end ?_);simp only [go_sem,↓upd_def,Nat.reduceAdd,↓reduceIte])
    exact ⟨by omega,hK⟩
 · clear g0 g1 g2 g3
   unfold entry
   repeat' (first|((first|apply qwd|apply qa1|apply qa2|apply qh1|apply qg1 rfl|apply qcd);(try intro K hk);focus (simp only [lvS4_135,mkT,go_sem,Nat.reduceEqDiff,Nat.reduceAdd,Nat.reduceLeDiff,Nat.reduceLT,↓reduceIte,reduceCtorEq,encS_eq,ex_St,List.length_cons,List.length_nil,ofI_nat,Int.reduceEq,Int.reduceLE,decide_true,decide_false,Bool.not_true,Bool.and_true,Bool.and_false,hv];first|exact rfl|((repeat refine ai ?_);intros;apply hk;clear hk K)))|apply qw1|refine qwc lvS4_135 ?_|apply qt1|apply qw5|apply qw2|apply qt3|apply qt6|apply qw4|apply qj1|apply qj2|apply qj4|apply qj5|apply qu1)
   all_goals
    ((first|refine fin_ret ?_|refine fin_end ?_);simp only [go_sem,↓upd_def,Nat.reduceAdd,↓reduceIte])
    exact ⟨by omega,hK⟩
 · clear g0 g1 g2 g3
   unfold entry
   repeat' (first|((first|apply qwd|apply qa1|apply qa2|apply qh1|apply qg1 rfl|apply qcd);(try intro K hk);focus (simp only [lvS4_135,mkT,go_sem,Nat.reduceEqDiff,Nat.reduceAdd,Nat.reduceLeDiff,Nat.reduceLT,↓reduceIte,reduceCtorEq,encS_eq,ex_St,List.length_cons,List.length_nil,ofI_nat,Int.reduceEq,Int.reduceLE,decide_true,decide_false,Bool.not_true,Bool.and_true,Bool.and_false,hv];first|exact rfl|((repeat refine ai ?_);intros;apply hk;clear hk K)))|apply qw1|refine qwc lvS4_135 ?_|apply qt1|apply qw5|apply qw2|apply qt3|apply qt6|apply qw4|apply qj1|apply qj2|apply qj4|apply qj5|apply qu1)
   all_goals
    ((first|refine fin_ret ?_|refine fin_end ?_);simp only [go_sem,↓upd_def,Nat.reduceAdd,↓reduceIte])
    exact ⟨by omega,hK⟩
 · clear g0 g1 g2 g3
   unfold entry
   repeat' (first|((first|apply qwd|apply qa1|apply qa2|apply qh1|apply qg1 rfl|apply qcd);(try intro K hk);focus (simp only [lvS4_135,mkT,go_sem,Nat.reduceEqDiff,Nat.reduceAdd,Nat.reduceLeDiff,Nat.reduceLT,↓reduceIte,reduceCtorEq,encS_eq,ex_St,List.length_cons,List.length_nil,ofI_nat,Int.reduceEq,Int.reduceLE,decide_true,decide_false,Bool.not_true,Bool.and_true,Bool.and_false,hv];first|exact rfl|((repeat refine ai ?_);intros;apply hk;clear hk K)))|apply qw1|refine qwc lvS4_135 ?_|apply qt1|apply qw5|apply qw2|apply qt3|apply qt6|apply qw4|apply qj1|apply qj2|apply qj4|apply qj5|apply qu1)
   all_goals
    ((first|refine fin_ret ?_|refine fin_end ?_);simp only [go_sem,↓upd_def,Nat.reduceAdd,↓reduceIte])
    exact ⟨by omega,hK⟩
 · have e0:=g0 (by decide)
   have e1:=g1 (by decide)
   have e2:=g2 (by decide)
   subst e0 e1 e2
   clear g0 g1 g2 g3
   rw [stepV_15 rfl] at hK
   unfold entry
   repeat' (first|((first|apply qwd|apply qa1|apply qa2|apply qh1|apply qg1 rfl|apply qcd);(try intro K hk);focus (simp only [lvS4_135,mkT,go_sem,Nat.reduceEqDiff,Nat.reduceAdd,Nat.reduceLeDiff,Nat.reduceLT,↓reduceIte,reduceCtorEq,encS_eq,ex_St,List.length_cons,List.length_nil,Int.reduceEq,Int.reduceLE,decide_true,decide_false,Bool.not_true,Bool.and_true,Bool.and_false,hv];first|exact rfl|((repeat refine ai ?_);intros;apply hk;clear hk K)))|apply qw1|refine qwc lvS4_135 ?_|apply qt1|apply qw5|apply qw2|apply qt4|apply qw4|apply qj2|apply qj4|apply qj5|apply qu1)
   all_goals
    ((first|refine fin_ret ?_|refine fin_end ?_);simp only [go_sem,↓upd_def,Nat.reduceAdd,↓reduceIte])
    refine ⟨by omega,K_eq hK ?_⟩
    clear hK
    try rw [moreS_t (by decide)]
    try rw [moreS_a (by omega)]
    (repeat' split)<;>first|rfl|(exfalso;omega)|(exfalso;simp_all;done)|(exfalso;simp_all;omega)|(simp_all;done)
set_option maxHeartbeats 8000000 in
theorem after_s:PureOk Tryz.prog 114 saC:=by
 refine pure_rel 2 (tab_cons sv_s (tab_cons step_s tab_nil)) mixed [.cell 4 48] Tryz.func114 rfl rfl (by kernel_rfl) (by kernel_rfl) (fun _=>rfl) (by kernel_rfl) ?_
 rintro ⟨⟨m,t,a,b⟩,x⟩ K ⟨hok,hl⟩ hK
 dsimp only at *
 cases hv:stV ⟨m,t,a,b⟩ with
 | false =>
   have e:afterS ⟨m,t,a,b⟩ x=bad:=by unfold afterS;rw [hv];rfl
   rw [e] at hK
   unfold entry
   repeat' (first|((first|apply qa1|apply qa2|apply qa3|apply qh1|apply qh2|apply qg1 rfl|apply qcd);(try intro K hk);focus (simp only [go_sem,Nat.reduceEqDiff,Nat.reduceAdd,Nat.reduceLeDiff,Nat.reduceLT,Nat.reduceSub,Int.reduceToNat,↓reduceIte,reduceCtorEq,encS_eq,ex_St,hv,Bool.not_false];first|exact rfl|((repeat refine ai ?_);intros;apply hk;clear hk K)))|apply qw8|apply qw1|apply qw6|apply qt1|apply qw5|apply qw2|apply qw9|apply qt2|apply qt3|apply qt4|apply qt5|apply qt6|apply qw3|apply qw4|apply qj1|apply qj2|apply qj3|apply qj4|apply qj5|apply qu1|apply qu2|(refine qj6 ?_ ?_<;>intro hc<;>(try simp only [hc])<;>(try simp only [decide_eq_true_eq,decide_eq_false_iff_not,Bool.not_eq_true',Bool.not_eq_false',Bool.not_eq_true,reduceCtorEq] at hc)<;>(try (exfalso;omega)))|(refine qt7 ?_ ?_;focus decide)|(refine qw7 ?_ ?_ ?_;(focus (decide +kernel));(focus (decide +kernel))))
   ((first|refine fin_ret ?_|refine fin_end ?_);simp only [go_sem,↓upd_def,Nat.reduceEqDiff,Nat.reduceAdd,↓reduceIte,reduceCtorEq])
   exact ⟨by omega,hK⟩
 | true =>
   have e:afterS ⟨m,t,a,b⟩ x=run ⟨m,t,a,b⟩ x:=by unfold afterS;rw [hv];rfl
   rw [e] at hK
   unfold entry
   repeat' (first|((first|apply qa1|apply qa2|apply qa3|apply qh1|apply qh2|apply qg1 rfl|apply qcd);(try intro K hk);focus (simp only [go_sem,Nat.reduceEqDiff,Nat.reduceAdd,Nat.reduceLeDiff,Nat.reduceLT,Nat.reduceSub,Int.reduceToNat,↓reduceIte,reduceCtorEq,encS_eq,ex_St,hv,Bool.not_true];first|exact rfl|((repeat refine ai ?_);intros;apply hk;clear hk K)))|apply qw8|apply qw1|apply qw6|apply qt1|apply qw5|apply qw2|apply qw9|apply qt2|apply qt3|apply qt4|apply qt5|apply qt6|apply qw3|apply qw4|apply qj1|apply qj2|apply qj3|apply qj4|apply qj5|apply qu1|apply qu2|(refine qj6 ?_ ?_<;>intro hc<;>(try simp only [hc])<;>(try simp only [decide_eq_true_eq,decide_eq_false_iff_not,Bool.not_eq_true',Bool.not_eq_false',Bool.not_eq_true,reduceCtorEq] at hc)<;>(try (exfalso;omega)))|(refine qt7 ?_ ?_;focus decide)|(refine qw7 ?_ ?_ ?_;(focus (decide +kernel));(focus (decide +kernel))))
   refine s_loop (ι:=Nat) (fun k=>[(1,.str x),(2,.ref 0 0),(4,.ref 1 0),(5,.int .i64 k)]) (fun k=>[(0,.box (encS (run ⟨m,t,a,b⟩ (x.take k)))),(1,.box (encS st0))]) 2 (fun k=>k≤x.length) (fun k=>x.length - k) 0 (by omega) (by omega) ?_ ?_
   · simp [fits,fitsT,fitsM,upd_def,PV.nmb,nmbL,MB.nmb,List.getD_cons_zero,List.getD_cons_succ,encS,st0,run]
   intro k hk
   have hb:=byte_lt x k
   have hvk:=okS_of (stV_run hv (x.take k))
   generalize hs:run ⟨m,t,a,b⟩ (x.take k)=s at *
   have hsn:=fun h=>run_snoc (s:=⟨m,t,a,b⟩) (t:=x) (k:=k) h
   rw [hs] at hsn
   obtain ⟨m',t',a',b'⟩:=s
   simp only [mkS,mkT,mkM]
   repeat' (first|((first|apply qa1|apply qa2|apply qa3|apply qh1|apply qh2|apply qg1 rfl|apply qcd);(try intro K hk);focus (simp only [go_sem,Nat.reduceEqDiff,Nat.reduceAdd,Nat.reduceLeDiff,Nat.reduceLT,Nat.reduceSub,Int.reduceToNat,↓reduceIte,reduceCtorEq,encS_eq,ex_St,ofI_nat];first|exact rfl|((repeat refine ai ?_);intros;apply hk;clear hk K)))|apply qw8|apply qw1|apply qw6|apply qt1|apply qw5|apply qw2|apply qw9|apply qt2|apply qt3|apply qt4|apply qt5|apply qt6|apply qw3|apply qw4|apply qj1|apply qj2|apply qj3|apply qj4|apply qj5|apply qu1|apply qu2|(refine qj6 ?_ ?_<;>intro hc<;>(try simp only [hc])<;>(try simp only [decide_eq_true_eq,decide_eq_false_iff_not,Bool.not_eq_true',Bool.not_eq_false',Bool.not_eq_true,reduceCtorEq] at hc)<;>(try (exfalso;omega)))|(refine qt7 ?_ ?_;focus decide)|(refine qw7 ?_ ?_ ?_;(focus (decide +kernel));(focus (decide +kernel))))
   · refine s_draw 5 (by decide +kernel) ?_
     repeat' (first|((first|apply qa1|apply qa2|apply qa3|apply qh1|apply qh2|apply qg1 rfl|apply qcd);(try intro K hk);focus (simp only [go_sem,Nat.reduceEqDiff,Nat.reduceAdd,Nat.reduceLeDiff,Nat.reduceLT,Nat.reduceSub,Int.reduceToNat,↓reduceIte,reduceCtorEq,encS_eq,ex_St,ofI_nat];first|exact rfl|((repeat refine ai ?_);intros;apply hk;clear hk K)))|apply qw8|apply qw1|apply qw6|apply qt1|apply qw5|apply qw2|apply qw9|apply qt2|apply qt3|apply qt4|apply qt5|apply qt6|apply qw3|apply qw4|apply qj1|apply qj2|apply qj3|apply qj4|apply qj5|apply qu1|apply qu2|(refine qj6 ?_ ?_<;>intro hc<;>(try simp only [hc])<;>(try simp only [decide_eq_true_eq,decide_eq_false_iff_not,Bool.not_eq_true',Bool.not_eq_false',Bool.not_eq_true,reduceCtorEq] at hc)<;>(try (exfalso;omega)))|(refine qt7 ?_ ?_;focus decide)|(refine qw7 ?_ ?_ ?_;(focus (decide +kernel));(focus (decide +kernel))))
     refine s_again (k+1) ?_ ?_ ?_<;>(first|omega|(dsimp only;omega)|skip)
     simp [fits,fitsT,fitsM,upd_def,PV.nmb,nmbL,MB.nmb,List.getD_cons_zero,List.getD_cons_succ,hsn (by omega),encS,st0]
   · obtain rfl:k=x.length:=by omega
     rw [List.take_length] at hs
     rw [hs] at hK
     ((first|refine fin_ret ?_|refine fin_end ?_);simp only [go_sem,↓upd_def,Nat.reduceEqDiff,Nat.reduceAdd,↓reduceIte,reduceCtorEq])
     exact ⟨by omega,hK⟩
end Go.Proofs.YtnbjogilidfkdaaGreat
