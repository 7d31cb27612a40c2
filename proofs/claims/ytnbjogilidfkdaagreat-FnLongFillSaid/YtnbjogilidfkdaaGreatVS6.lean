/- Contracts: places of holes, states behind them. -/
import Derived.Test.YtnbjogilidfkdaaGreatVS0
import Derived.Test.YtnbjogilidfkdaaGreatVX1

namespace Go.Proofs.YtnbjogilidfkdaaGreat
attribute [local irreducible] awp arun acalm FinP Fin AX.then AX.inBlock Again aG gsel amix amixN amixC aop aopc aopd cutK
attribute [local go_sem] aBSliceD aSlice aSliceC boundOf aMk aCall aCallC aLenL aLen aPick_t aPick_f aNil aAlloc aBox aBuild bldPV aBSlice bsPV aApp newsOf destOf drp aConvX aConv aConvInt aLoad cellsAt aStore cellsPV setAt aFld aField aIdx aIndex aUn aBin' aBin aMax aExtract pvOf PV.isCell nmbL PV.nmb List.map_cons List.map_nil List.all_cons List.all_nil Bool.and_true Bool.true_and if_true if_false List.getD_cons_zero List.getD_cons_succ List.getD_nil Option.isSome_some true_and and_true and_self eq_self true_or or_true List.drop_zero List.drop_succ_cons List.drop_nil List.take_zero List.take_succ_cons List.take_nil List.length_cons List.length_nil List.length_map Option.getD_some Option.getD_none List.nil_append List.cons_append List.append_nil Option.some.injEq exists_eq_left' List.getElem?_cons_zero List.getElem?_cons_succ Int.toNat_natCast Int.natCast_inj toNat_succ Nat.zero_add res res1 resC owns owns1 ownsC List.flatMap_cons List.flatMap_nil List.flatten_cons List.flatten_nil List.mem_cons List.not_mem_nil or_false false_or forall_eq forall_eq_or_imp isFro frz frz1 pureC tabA isBld List.cons.injEq PV.seq.injEq PV.int.injEq PV.str.injEq PV.bool.injEq PV.agg.injEq inR tab Γof aRes packR Option.map_some Option.map_none rel Prod.exists exists_and_left exists_eq_left and_assoc beq_self_eq_true Bool.not_true Bool.not_false decide_true decide_false List.set_cons_zero List.set_cons_succ rst_nil rst_cons
attribute [local go_sem ↓] evT upd_def aop aopc aopd
set_option maxRecDepth 100000
set_option linter.unusedVariables false
set_option linter.unusedSimpArgs false
open Go.RowKit
def lvS6_29:Nat→List Nat
 | 0=>[1]
 | 1=>[1,5]
 | 2=>[2]
 | 3=>[1,7]
 | 4=>[1,7,8]
 | 5=>[2]
 | 6=>[1,7,10]
 | 7=>[2]
 | 8=>[1,7,12]
 | 9=>[1,12]
 | 10=>[1,15]
 | 11=>[2]
 | 12=>[1,24]
 | 13=>[2]
 | 14=>[29]
 | 15=>[2]
 | 16=>[2]
 | 17=>[2]
 | _=>[]
def lvS6_57:Nat→List Nat
 | 0=>[1,2]
 | 1=>[1,2,5]
 | 2=>[2]
 | 3=>[1,2,14]
 | 4=>[1,2]
 | 5=>[2]
 | _=>[]
def lvS6_72:Nat→List Nat
 | 0=>[1]
 | 1=>[1,6]
 | 2=>[2]
 | 3=>[1,3]
 | 4=>[1,3,15]
 | 5=>[2]
 | 6=>[1,3,19]
 | 7=>[2]
 | 8=>[1,3,23]
 | 9=>[2]
 | 10=>[1,3,42]
 | 11=>[2]
 | 12=>[3,53]
 | 13=>[2]
 | 14=>[60]
 | 15=>[2]
 | 16=>[2]
 | _=>[]
def lvS6_115:Nat→List Nat
 | 0=>[1,2]
 | 1=>[1,2,5]
 | 2=>[2]
 | 3=>[2]
 | _=>[]
def lvS6_136:Nat→List Nat
 | 0=>[1,2]
 | 1=>[1,2,10]
 | 2=>[1,2]
 | 3=>[2]
 | _=>[]
--LV=S6
theorem pre2 {l:Bs} (h:2≤l.length):(l.take 2=[111,110])↔List.isPrefixOf [111,110] l=true:=by
 match l,h with
 | a::b::r,_=>simp [List.isPrefixOf];constructor<;>(rintro ⟨h1,h2⟩;exact ⟨h1.symm,h2.symm⟩)
theorem pre2n {l:Bs} (h: ¬ 2≤l.length):List.isPrefixOf [111,110] l=false:=by
 match l,h with
 | [],_=>rfl
 | [a],_=>simp [List.isPrefixOf]
 | a::b::r,h=>exact absurd (by simp) h
theorem adr_i:PureOk Tryz.prog 66 (strC addrN):=by
 refine pure_rel 1 tab_nil mixed [.tmp 2] Tryz.func66 rfl rfl (by kernel_rfl) (by kernel_rfl) (fun _=>rfl) (by kernel_rfl) ?_
 rintro s K hl hK
 unfold entry
 repeat' (first|((first|apply qa1|apply qh1|apply qg1 rfl);(try intro K hk);focus (simp only [go_sem,Nat.reduceEqDiff,↓reduceIte,reduceCtorEq];first|exact rfl|((repeat refine ai ?_);intros;apply hk;clear hk K)))|apply qw8|apply qw1|apply qw6|apply qt1|apply qw4|apply qj2|apply qj3|apply qu1|(refine qj6 ?_ ?_<;>intro hc<;>(try simp only [hc])<;>(try simp only [decide_eq_true_eq,decide_eq_false_iff_not] at hc)<;>(try (exfalso;omega))))
 all_goals
  ((first|refine fin_ret ?_|refine fin_end ?_);simp only [go_sem,↓upd_def,↓reduceIte])
  refine K_bool hK ?_
  clear hK
  unfold addrN
  simp [*]
theorem adr_s:PureOk Tryz.prog 113 (strC addrN):=by
 refine pure_rel 1 tab_nil mixed [.tmp 2] Tryz.func113 rfl rfl (by kernel_rfl) (by kernel_rfl) (fun _=>rfl) (by kernel_rfl) ?_
 rintro s K hl hK
 unfold entry
 repeat' (first|((first|apply qa1|apply qa2|apply qa3|apply qh1|apply qh2|apply qg1 rfl|apply qcd);(try intro K hk);focus (simp only [go_sem,Nat.reduceEqDiff,Nat.reduceAdd,Nat.reduceLeDiff,Nat.reduceLT,Nat.reduceSub,Int.reduceToNat,↓reduceIte,reduceCtorEq];first|exact rfl|((repeat refine ai ?_);intros;apply hk;clear hk K)))|apply qw8|apply qw1|apply qw6|apply qt1|apply qw5|apply qw2|apply qw9|apply qt2|apply qt3|apply qt4|apply qt5|apply qt6|apply qw3|apply qw4|apply qj1|apply qj2|apply qj3|apply qj4|apply qj5|apply qu1|apply qu2|(refine qj6 ?_ ?_<;>intro hc<;>(try simp only [hc])<;>(try simp only [decide_eq_true_eq,decide_eq_false_iff_not,Bool.not_eq_true',Bool.not_eq_false',Bool.not_eq_true,reduceCtorEq] at hc)<;>(try (exfalso;omega)))|(refine qt7 ?_ ?_;focus decide)|(refine qw7 ?_ ?_ ?_;(focus (decide +kernel));(focus (decide +kernel))))
 all_goals
  ((first|refine fin_ret ?_|refine fin_end ?_);simp only [go_sem,↓upd_def,Nat.reduceEqDiff,Nat.reduceAdd,↓reduceIte,reduceCtorEq])
  refine K_bool hK ?_
  clear hK
  unfold addrN
  simp [*]
theorem placeM_eq (s:St):placeM s=if stV s=false then 0 else if s.mode=0 then 1 else if s.mode=12 then 5 else if s.mode=6∨s.mode=7 then
 (if List.isPrefixOf [111,110] s.attr=true∨s.attr=styleN then 0 else if addrN s.attr=false then 2 else if s.seen=true then 4 else 3) else 0:=rfl
@[go_sem] def plC:PC:=stC fun s=> .int .i64 (placeM s)
set_option maxHeartbeats 8000000 in
theorem place_i:PureOk Tryz.prog 29 plC:=by
 refine pure_rel 1 (tab_cons sv_i (tab_cons pre_any (tab_cons adr_i tab_nil))) mixed [.tmp 2] Tryz.func29 rfl rfl (by kernel_rfl) (by kernel_rfl) (fun _=>rfl) (by kernel_rfl) ?_
 rintro ⟨m,t,a,b⟩ K hok hK
 rw [placeM_eq] at hK
 obtain ⟨hl1,hl2⟩:=hok
 dsimp only at *
 have hok:okS ⟨m,t,a,b⟩:=⟨hl1,hl2⟩
 cases hv:stV ⟨m,t,a,b⟩<;>rw [hv] at hK<;>unfold entry
 · repeat' (first|((first|apply qwd|apply qa1|apply qcd);(try intro K hk);focus (simp only [lvS6_29,mkT,go_sem,Nat.reduceEqDiff,Nat.reduceAdd,Nat.reduceLeDiff,↓reduceIte,encS_eq,ex_St,hv,Bool.not_false];first|exact rfl|((repeat refine ai ?_);intros;apply hk;clear hk K)))|apply qw1|refine qwc lvS6_29 ?_|apply qt1|apply qt3|apply qw4|apply qj1)
   ((first|refine fin_ret ?_|refine fin_end ?_);simp only [go_sem,↓upd_def,↓reduceIte])
   exact hK
 repeat' (first|((first|apply qwd|apply qa1|apply qh1|apply qg1 rfl|apply qcd);(try intro K hk);focus (simp only [lvS6_29,mkT,go_sem,Nat.reduceEqDiff,Nat.reduceAdd,Nat.reduceLeDiff,↓reduceIte,encS_eq,ex_St,hv,Bool.not_true];first|exact rfl|((repeat refine ai ?_);intros;apply hk;clear hk K)))|apply qw1|refine qwc lvS6_29 ?_|apply qt1|apply qw5|apply qw2|apply qt3|apply qt4|apply qt6|apply qw4|apply qj1|apply qj2|apply qj3|apply qj4|apply qu1|(refine qj6 ?_ ?_<;>intro hc<;>(try simp only [hc])<;>(try simp only [decide_eq_true_eq,decide_eq_false_iff_not,Bool.not_eq_true',Bool.not_eq_false'] at hc)<;>(try (exfalso;omega))))
 all_goals
  ((first|refine fin_ret ?_|refine fin_end ?_);simp only [go_sem,↓upd_def,↓reduceIte])
  refine K_int hK ?_
  clear hK
  have hst:styleN=[115,116,121,108,101]:=rfl
  (repeat' split)<;>first|rfl|(exfalso;omega)|(exfalso;simp_all;done)|(exfalso;simp_all;omega)
set_option maxHeartbeats 8000000 in
theorem place_s:PureOk Tryz.prog 72 plC:=by
 refine pure_rel 1 (tab_cons sv_s (tab_cons adr_s tab_nil)) mixed [.tmp 2] Tryz.func72 rfl rfl (by kernel_rfl) (by kernel_rfl) (fun _=>rfl) (by kernel_rfl) ?_
 rintro ⟨m,t,a,b⟩ K hok hK
 rw [placeM_eq] at hK
 obtain ⟨hl1,hl2⟩:=hok
 dsimp only at *
 have hok:okS ⟨m,t,a,b⟩:=⟨hl1,hl2⟩
 cases hv:stV ⟨m,t,a,b⟩<;>rw [hv] at hK<;>unfold entry
 · repeat' (first|((first|apply qwd|apply qa1|apply qa2|apply qa3|apply qh1|apply qh2|apply qg1 rfl|apply qcd);(try intro K hk);focus (simp only [lvS6_72,mkT,go_sem,Nat.reduceEqDiff,Nat.reduceAdd,Nat.reduceLeDiff,Nat.reduceLT,Nat.reduceSub,Int.reduceToNat,↓reduceIte,reduceCtorEq,encS_eq,ex_St,hv,Bool.not_false];first|exact rfl|((repeat refine ai ?_);intros;apply hk;clear hk K)))|apply qw8|apply qw1|refine qwc lvS6_72 ?_|apply qt1|apply qw5|apply qw2|apply qw9|apply qt2|apply qt3|apply qt4|apply qt5|apply qt6|apply qw3|apply qw4|apply qj1|apply qj2|apply qj3|apply qj4|apply qj5|apply qu1|apply qu2|(refine qj6 ?_ ?_<;>intro hc<;>(try simp only [hc])<;>(try simp only [decide_eq_true_eq,decide_eq_false_iff_not,Bool.not_eq_true',Bool.not_eq_false',Bool.not_eq_true,reduceCtorEq] at hc)<;>(try (exfalso;omega)))|(refine qt7 ?_ ?_;focus decide)|(refine qw7 ?_ ?_ ?_;(focus (decide +kernel));(focus (decide +kernel))))
   ((first|refine fin_ret ?_|refine fin_end ?_);simp only [go_sem,↓upd_def,Nat.reduceEqDiff,Nat.reduceAdd,↓reduceIte,reduceCtorEq])
   exact hK
 by_cases h2:2≤a.length
 · have hp:=pre2 h2
   repeat' (first|((first|apply qwd|apply qa1|apply qa2|apply qa3|apply qh1|apply qh2|apply qg1 rfl|apply qcd);(try intro K hk);focus (simp only [lvS6_72,mkT,go_sem,Nat.reduceEqDiff,Nat.reduceAdd,Nat.reduceLeDiff,Nat.reduceLT,Nat.reduceSub,Int.reduceToNat,↓reduceIte,reduceCtorEq,encS_eq,ex_St,hv,Bool.not_true];first|exact rfl|((repeat refine ai ?_);intros;apply hk;clear hk K)))|apply qw8|apply qw1|refine qwc lvS6_72 ?_|apply qt1|apply qw5|apply qw2|apply qw9|apply qt2|apply qt3|apply qt4|apply qt5|apply qt6|apply qw3|apply qw4|apply qj1|apply qj2|apply qj3|apply qj4|apply qj5|apply qu1|apply qu2|(refine qj6 ?_ ?_<;>intro hc<;>(try simp only [hc])<;>(try simp only [decide_eq_true_eq,decide_eq_false_iff_not,Bool.not_eq_true',Bool.not_eq_false',Bool.not_eq_true,reduceCtorEq] at hc)<;>(try (exfalso;omega)))|(refine qt7 ?_ ?_;focus decide)|(refine qw7 ?_ ?_ ?_;(focus (decide +kernel));(focus (decide +kernel))))
   all_goals
    ((first|refine fin_ret ?_|refine fin_end ?_);simp only [go_sem,↓upd_def,Nat.reduceEqDiff,Nat.reduceAdd,↓reduceIte,reduceCtorEq])
    refine K_int hK ?_
    clear hK
    have hst:styleN=[115,116,121,108,101]:=rfl
    (repeat' split)<;>first|rfl|(exfalso;omega)|(exfalso;simp_all;done)|(exfalso;simp_all;omega)
 · have hp:=pre2n h2
   repeat' (first|((first|apply qwd|apply qa1|apply qa2|apply qa3|apply qh1|apply qh2|apply qg1 rfl|apply qcd);(try intro K hk);focus (simp only [lvS6_72,mkT,go_sem,Nat.reduceEqDiff,Nat.reduceAdd,Nat.reduceLeDiff,Nat.reduceLT,Nat.reduceSub,Int.reduceToNat,↓reduceIte,reduceCtorEq,encS_eq,ex_St,hv,Bool.not_true];first|exact rfl|((repeat refine ai ?_);intros;apply hk;clear hk K)))|apply qw8|apply qw1|refine qwc lvS6_72 ?_|apply qt1|apply qw5|apply qw2|apply qw9|apply qt2|apply qt3|apply qt4|apply qt5|apply qt6|apply qw3|apply qw4|apply qj1|apply qj2|apply qj3|apply qj4|apply qj5|apply qu1|apply qu2|(refine qj6 ?_ ?_<;>intro hc<;>(try simp only [hc])<;>(try simp only [decide_eq_true_eq,decide_eq_false_iff_not,Bool.not_eq_true',Bool.not_eq_false',Bool.not_eq_true,reduceCtorEq] at hc)<;>(try (exfalso;omega)))|(refine qt7 ?_ ?_;focus decide)|(refine qw7 ?_ ?_ ?_;(focus (decide +kernel));(focus (decide +kernel))))
   all_goals
    ((first|refine fin_ret ?_|refine fin_end ?_);simp only [go_sem,↓upd_def,Nat.reduceEqDiff,Nat.reduceAdd,↓reduceIte,reduceCtorEq])
    refine K_int hK ?_
    clear hK
    have hst:styleN=[115,116,121,108,101]:=rfl
    (repeat' split)<;>first|rfl|(exfalso;omega)|(exfalso;simp_all;done)|(exfalso;simp_all;omega)
@[go_sem] def behC:PC:=stC fun s=> .agg (encS (behindM s))
theorem behindM_eq (s:St):behindM s=if placeM s=0 then bad else if s.mode=6∨s.mode=7 then ⟨s.mode,s.tag,s.attr,true⟩ else s:=rfl
set_option maxHeartbeats 8000000 in
theorem beh_i:PureOk Tryz.prog 57 behC:=by
 refine pure_rel 1 (tab_cons place_i tab_nil) mixed [.cell 2 48] Tryz.func57 rfl rfl (by kernel_rfl) (by kernel_rfl) (fun _=>rfl) (by kernel_rfl) ?_
 rintro ⟨m,t,a,b⟩ K hok hK
 rw [behindM_eq] at hK
 unfold entry
 repeat' (first|((first|apply qwd|apply qa1|apply qa2|apply qh1|apply qg1 rfl|apply qcd);(try intro K hk);focus (simp only [lvS6_57,mkT,go_sem,Nat.reduceEqDiff,Nat.reduceAdd,Nat.reduceLeDiff,Nat.reduceLT,↓reduceIte,reduceCtorEq,encS_eq,ex_St];first|exact rfl|((repeat refine ai ?_);intros;apply hk;clear hk K)))|apply qw1|refine qwc lvS6_57 ?_|apply qt1|apply qw2|apply qt3|apply qw4|apply qj1|apply qj2|apply qj3|apply qj4|apply qu1|(refine qj6 ?_ ?_<;>intro hc<;>(try simp only [hc])<;>(try simp only [decide_eq_true_eq,decide_eq_false_iff_not] at hc)<;>(try (exfalso;omega))))
 all_goals
  ((first|refine fin_ret ?_|refine fin_end ?_);simp only [go_sem,↓upd_def,Nat.reduceAdd,↓reduceIte])
  refine ⟨by omega,K_eq hK ?_⟩
  clear hK
  (repeat' split)<;>first|rfl|(exfalso;omega)|(exfalso;simp_all;done)|(exfalso;simp_all;omega)
set_option maxHeartbeats 8000000 in
theorem l13_s:PureOk Tryz.prog 136 (stC fun s=> .agg (encS (if s.mode=6∨s.mode=7 then ⟨s.mode,s.tag,s.attr,true⟩ else s))):=by
 refine pure_rel 1 tab_nil mixed [.cell 2 48] Tryz.func136 rfl rfl (by kernel_rfl) (by kernel_rfl) (fun _=>rfl) (by kernel_rfl) ?_
 rintro ⟨m,t,a,b⟩ K hok hK
 unfold entry
 repeat' (first|((first|apply qwd|apply qa1|apply qa2|apply qa3|apply qh1|apply qh2|apply qg1 rfl|apply qcd);(try intro K hk);focus (simp only [lvS6_136,mkT,go_sem,Nat.reduceEqDiff,Nat.reduceAdd,Nat.reduceLeDiff,Nat.reduceLT,Nat.reduceSub,Int.reduceToNat,↓reduceIte,reduceCtorEq,encS_eq,ex_St];first|exact rfl|((repeat refine ai ?_);intros;apply hk;clear hk K)))|apply qw8|apply qw1|refine qwc lvS6_136 ?_|apply qt1|apply qw5|apply qw2|apply qw9|apply qt2|apply qt3|apply qt4|apply qt5|apply qt6|apply qw3|apply qw4|apply qj1|apply qj2|apply qj3|apply qj4|apply qj5|apply qu1|apply qu2|(refine qj6 ?_ ?_<;>intro hc<;>(try simp only [hc])<;>(try simp only [decide_eq_true_eq,decide_eq_false_iff_not,Bool.not_eq_true',Bool.not_eq_false',Bool.not_eq_true,reduceCtorEq] at hc)<;>(try (exfalso;omega)))|(refine qt7 ?_ ?_;focus decide)|(refine qw7 ?_ ?_ ?_;(focus (decide +kernel));(focus (decide +kernel))))
 all_goals
  ((first|refine fin_ret ?_|refine fin_end ?_);simp only [go_sem,↓upd_def,Nat.reduceEqDiff,Nat.reduceAdd,↓reduceIte,reduceCtorEq])
  refine ⟨by omega,K_eq hK ?_⟩
  clear hK
  (repeat' split)<;>first|rfl|(exfalso;omega)|(exfalso;simp_all;done)|(exfalso;simp_all;omega)
set_option maxHeartbeats 8000000 in
theorem beh_s:PureOk Tryz.prog 115 behC:=by
 refine pure_rel 1 (tab_cons place_s (tab_cons l13_s tab_nil)) mixed [.cell 2 48] Tryz.func115 rfl rfl (by kernel_rfl) (by kernel_rfl) (fun _=>rfl) (by kernel_rfl) ?_
 rintro ⟨m,t,a,b⟩ K hok hK
 rw [behindM_eq] at hK
 unfold entry
 repeat' (first|((first|apply qwd|apply qa1|apply qa2|apply qa3|apply qh1|apply qh2|apply qg1 rfl|apply qcd);(try intro K hk);focus (simp only [lvS6_115,mkT,go_sem,Nat.reduceEqDiff,Nat.reduceAdd,Nat.reduceLeDiff,Nat.reduceLT,Nat.reduceSub,Int.reduceToNat,↓reduceIte,reduceCtorEq,encS_eq,ex_St];first|exact rfl|((repeat refine ai ?_);intros;apply hk;clear hk K)))|apply qw8|apply qw1|refine qwc lvS6_115 ?_|apply qt1|apply qw5|apply qw2|apply qw9|apply qt2|apply qt3|apply qt4|apply qt5|apply qt6|apply qw3|apply qw4|apply qj1|apply qj2|apply qj3|apply qj4|apply qj5|apply qu1|apply qu2|(refine qj6 ?_ ?_<;>intro hc<;>(try simp only [hc])<;>(try simp only [decide_eq_true_eq,decide_eq_false_iff_not,Bool.not_eq_true',Bool.not_eq_false',Bool.not_eq_true,reduceCtorEq] at hc)<;>(try (exfalso;omega)))|(refine qt7 ?_ ?_;focus decide)|(refine qw7 ?_ ?_ ?_;(focus (decide +kernel));(focus (decide +kernel))))
 all_goals
  ((first|refine fin_ret ?_|refine fin_end ?_);simp only [go_sem,↓upd_def,Nat.reduceEqDiff,Nat.reduceAdd,↓reduceIte,reduceCtorEq])
  refine ⟨by omega,K_eq hK ?_⟩
  clear hK
  (repeat' split)<;>first|rfl|(exfalso;omega)|(exfalso;simp_all;done)|(exfalso;simp_all;omega)
end Go.Proofs.YtnbjogilidfkdaaGreat

/- Contracts: one step of the machine of modes, the reference. -/
namespace Go.Proofs.YtnbjogilidfkdaaGreat
attribute [local irreducible] awp arun acalm FinP Fin AX.then AX.inBlock Again aG gsel amix amixN amixC aop aopc aopd cutK
attribute [local go_sem] aBSliceD aSlice aSliceC boundOf aMk aCall aCallC aLenL aLen aPick_t aPick_f aNil aAlloc aBox aBuild bldPV aBSlice bsPV aApp newsOf destOf drp aConvX aConv aConvInt aLoad cellsAt aStore cellsPV setAt aFld aField aIdx aIndex aUn aBin' aBin aMax aExtract pvOf PV.isCell nmbL PV.nmb List.map_cons List.map_nil List.all_cons List.all_nil Bool.and_true Bool.true_and if_true if_false List.getD_cons_zero List.getD_cons_succ List.getD_nil Option.isSome_some true_and and_true and_self eq_self true_or or_true List.drop_zero List.drop_succ_cons List.drop_nil List.take_zero List.take_succ_cons List.take_nil List.length_cons List.length_nil List.length_map Option.getD_some Option.getD_none List.nil_append List.cons_append List.append_nil Option.some.injEq exists_eq_left' List.getElem?_cons_zero List.getElem?_cons_succ Int.toNat_natCast Int.natCast_inj toNat_succ Nat.zero_add res res1 resC owns owns1 ownsC List.flatMap_cons List.flatMap_nil List.flatten_cons List.flatten_nil List.mem_cons List.not_mem_nil or_false false_or forall_eq forall_eq_or_imp isFro frz frz1 pureC tabA isBld List.cons.injEq PV.seq.injEq PV.int.injEq PV.str.injEq PV.bool.injEq PV.agg.injEq inR tab Γof aRes packR Option.map_some Option.map_none rel Prod.exists exists_and_left exists_eq_left and_assoc beq_self_eq_true Bool.not_true Bool.not_false decide_true decide_false List.set_cons_zero List.set_cons_succ rst_nil rst_cons
attribute [local go_sem ↓] evT upd_def aop aopc aopd
set_option maxRecDepth 100000
set_option linter.unusedVariables false
set_option linter.unusedSimpArgs false
open Go.RowKit
def lvS3_152:Nat→List Nat
 | 0=>[1,2,4]
 | 1=>[1,2,4,5]
 | 2=>[4]
 | 3=>[1,2,4,16]
 | 4=>[4]
 | 5=>[1,2,4,30]
 | 6=>[4]
 | 7=>[1,2,4,46]
 | 8=>[4]
 | 9=>[1,2,4,60]
 | 10=>[4]
 | 11=>[1,2,4,71]
 | 12=>[4]
 | 13=>[1,2,4,84]
 | 14=>[4]
 | 15=>[1,2,4,97]
 | 16=>[4]
 | 17=>[2,4,110]
 | 18=>[4]
 | 19=>[4]
 | _=>[]
--LV=S3
set_option maxHeartbeats 8000000 in
theorem cont_s:PureOk Tryz.prog 161 (tC fun t=> .agg (encS (if t=script then ⟨11,[],[],false⟩ else st0))):=by
 refine pure_rel 1 tab_nil mixed [.cell 2 48] Tryz.func161 rfl rfl (by kernel_rfl) (by kernel_rfl) (fun _=>rfl) (by kernel_rfl) ?_
 rintro t K h1 hK
 unfold entry
 repeat' (first|((first|apply qa1|apply qa2|apply qa3|apply qh1|apply qh2|apply qg1 rfl|apply qcd);(try intro K hk);focus (simp only [go_sem,Nat.reduceEqDiff,Nat.reduceAdd,Nat.reduceLeDiff,Nat.reduceLT,Nat.reduceSub,Int.reduceToNat,↓reduceIte,reduceCtorEq];first|exact rfl|((repeat refine ai ?_);intros;apply hk;clear hk K)))|apply qw8|apply qw1|apply qw6|apply qt1|apply qw5|apply qw2|apply qw9|apply qt2|apply qt3|apply qt4|apply qt5|apply qt6|apply qw3|apply qw4|apply qj1|apply qj2|apply qj3|apply qj4|apply qj5|apply qu1|apply qu2|(refine qj6 ?_ ?_<;>intro hc<;>(try simp only [hc])<;>(try simp only [decide_eq_true_eq,decide_eq_false_iff_not,Bool.not_eq_true',Bool.not_eq_false',Bool.not_eq_true,reduceCtorEq] at hc)<;>(try (exfalso;omega)))|(refine qt7 ?_ ?_;focus decide)|(refine qw7 ?_ ?_ ?_;(focus (decide +kernel));(focus (decide +kernel))))
 all_goals
  ((first|refine fin_ret ?_|refine fin_end ?_);simp only [go_sem,↓upd_def,Nat.reduceEqDiff,Nat.reduceAdd,↓reduceIte,reduceCtorEq])
  refine ⟨by omega,K_eq hK ?_⟩
  clear hK
  unfold st0 encS script
  simp [*]
set_option maxHeartbeats 8000000 in
theorem value_s:PureOk Tryz.prog 150 (stC fun s=> .agg (encS ⟨s.mode,s.tag,s.attr,true⟩)):=by
 refine pure_rel 1 tab_nil mixed [.cell 2 48] Tryz.func150 rfl rfl (by kernel_rfl) (by kernel_rfl) (fun _=>rfl) (by kernel_rfl) ?_
 rintro ⟨m,t,a,b⟩ K h1 hK
 unfold entry
 repeat' (first|((first|apply qa1|apply qa2|apply qa3|apply qh1|apply qh2|apply qg1 rfl|apply qcd);(try intro K hk);focus (simp only [go_sem,Nat.reduceEqDiff,Nat.reduceAdd,Nat.reduceLeDiff,Nat.reduceLT,Nat.reduceSub,Int.reduceToNat,↓reduceIte,reduceCtorEq];first|exact rfl|((repeat refine ai ?_);intros;apply hk;clear hk K)))|apply qw8|apply qw1|apply qw6|apply qt1|apply qw5|apply qw2|apply qw9|apply qt2|apply qt3|apply qt4|apply qt5|apply qt6|apply qw3|apply qw4|apply qj1|apply qj2|apply qj3|apply qj4|apply qj5|apply qu1|apply qu2|(refine qj6 ?_ ?_<;>intro hc<;>(try simp only [hc])<;>(try simp only [decide_eq_true_eq,decide_eq_false_iff_not,Bool.not_eq_true',Bool.not_eq_false',Bool.not_eq_true,reduceCtorEq] at hc)<;>(try (exfalso;omega)))|(refine qt7 ?_ ?_;focus decide)|(refine qw7 ?_ ?_ ?_;(focus (decide +kernel));(focus (decide +kernel))))
 ((first|refine fin_ret ?_|refine fin_end ?_);simp only [go_sem,↓upd_def,Nat.reduceEqDiff,Nat.reduceAdd,↓reduceIte,reduceCtorEq])
 exact ⟨by omega,hK⟩
set_option maxHeartbeats 8000000 in
theorem tag_s:PureOk Tryz.prog 152 (sbC (fun s=>stV s=true∧(s.mode=2∨s.mode=3∨s.mode=4∨s.mode=5∨s.mode=8)) stepV):=by
 refine pure_rel 2 (tab_cons cont_s (tab_cons nmb_s (tab_cons more_s (tab_cons let_s tab_nil)))) mixed [.cell 4 48] Tryz.func152 rfl rfl (by kernel_rfl) (by kernel_rfl) (fun _=>rfl) (by kernel_rfl) ?_
 rintro ⟨⟨m,t,a,b⟩,c⟩ K ⟨h1,h2,h3,h4⟩ hK
 dsimp only at h1 h2 h3 h4
 obtain ⟨c,rfl⟩:=byte_of h1 (by omega)
 obtain ⟨hl1,hl2⟩:=stV_len h3
 have g1:= @stV_attr0 _ h3
 have g2:= @stV_seen0 _ h3
 have g3:= @stV_seen8 _ h3
 have hbn:=bare_nm c
 obtain ⟨q1,q2⟩:=cls_byte c
 dsimp only at hl1 hl2 g1 g2 g3
 clear h3
 rw [ofI_nat] at hK
 rcases h4 with rfl|rfl|rfl|rfl|rfl
 · have e1:=g1 (by decide)
   have e2:=g2 (by decide)
   subst e1 e2
   clear g1 g2 g3
   rw [stepV_t (by simp),stepTagM] at hK
   unfold entry
   repeat' (first|((first|apply qwd|apply qa1|apply qa2|apply qa3|apply qh1|apply qh2|apply qg1 rfl|apply qcd);(try intro K hk);focus (simp only [lvS3_152,mkT,go_sem,Nat.reduceEqDiff,Nat.reduceAdd,Nat.reduceLeDiff,Nat.reduceLT,Nat.reduceSub,Int.reduceToNat,↓reduceIte,reduceCtorEq,encS_eq,List.length_cons,List.length_nil,ofI_nat,Int.reduceEq,decide_true,decide_false];first|exact rfl|((repeat refine ai ?_);intros;apply hk;clear hk K)))|apply qw8|apply qw1|refine qwc lvS3_152 ?_|apply qt1|apply qw5|apply qw2|apply qw9|apply qt2|apply qt3|apply qt4|apply qt5|apply qt6|apply qw3|apply qw4|apply qj1|apply qj2|apply qj3|apply qj4|apply qj5|apply qu1|apply qu2|(refine qj6 ?_ ?_<;>intro hc<;>(try simp only [hc])<;>(try simp only [decide_eq_true_eq,decide_eq_false_iff_not,Bool.not_eq_true',Bool.not_eq_false',Bool.not_eq_true,reduceCtorEq] at hc)<;>(try (exfalso;omega)))|(refine qt7 ?_ ?_;focus decide)|(refine qw7 ?_ ?_ ?_;(focus (decide +kernel));(focus (decide +kernel))))
   all_goals
    ((first|refine fin_ret ?_|refine fin_end ?_);simp only [go_sem,↓upd_def,Nat.reduceEqDiff,Nat.reduceAdd,↓reduceIte,reduceCtorEq])
    refine ⟨by omega,K_eq hK ?_⟩
    clear hK
    try rw [moreS_t (by decide)]
    try rw [moreS_a (by omega)]
    (repeat' split)<;>first|rfl|(exfalso;omega)|(exfalso;simp_all;done)|(exfalso;simp_all;omega)
 · have e1:=g1 (by decide)
   have e2:=g2 (by decide)
   subst e1 e2
   clear g1 g2 g3
   rw [stepV_t (by simp),stepTagM] at hK
   unfold entry
   repeat' (first|((first|apply qwd|apply qa1|apply qa2|apply qa3|apply qh1|apply qh2|apply qg1 rfl|apply qcd);(try intro K hk);focus (simp only [lvS3_152,mkT,go_sem,Nat.reduceEqDiff,Nat.reduceAdd,Nat.reduceLeDiff,Nat.reduceLT,Nat.reduceSub,Int.reduceToNat,↓reduceIte,reduceCtorEq,encS_eq,List.length_cons,List.length_nil,ofI_nat,Int.reduceEq,decide_true,decide_false];first|exact rfl|((repeat refine ai ?_);intros;apply hk;clear hk K)))|apply qw8|apply qw1|refine qwc lvS3_152 ?_|apply qt1|apply qw5|apply qw2|apply qw9|apply qt2|apply qt3|apply qt4|apply qt5|apply qt6|apply qw3|apply qw4|apply qj1|apply qj2|apply qj3|apply qj4|apply qj5|apply qu1|apply qu2|(refine qj6 ?_ ?_<;>intro hc<;>(try simp only [hc])<;>(try simp only [decide_eq_true_eq,decide_eq_false_iff_not,Bool.not_eq_true',Bool.not_eq_false',Bool.not_eq_true,reduceCtorEq] at hc)<;>(try (exfalso;omega)))|(refine qt7 ?_ ?_;focus decide)|(refine qw7 ?_ ?_ ?_;(focus (decide +kernel));(focus (decide +kernel))))
   all_goals
    ((first|refine fin_ret ?_|refine fin_end ?_);simp only [go_sem,↓upd_def,Nat.reduceEqDiff,Nat.reduceAdd,↓reduceIte,reduceCtorEq])
    refine ⟨by omega,K_eq hK ?_⟩
    clear hK
    try rw [moreS_t (by decide)]
    try rw [moreS_a (by omega)]
    (repeat' split)<;>first|rfl|(exfalso;omega)|(exfalso;simp_all;done)|(exfalso;simp_all;omega)
 · have e2:=g2 (by decide)
   subst e2
   clear g1 g2 g3
   rw [stepV_t (by simp),stepTagM] at hK
   unfold entry
   repeat' (first|((first|apply qwd|apply qa1|apply qa2|apply qa3|apply qh1|apply qh2|apply qg1 rfl|apply qcd);(try intro K hk);focus (simp only [lvS3_152,mkT,go_sem,Nat.reduceEqDiff,Nat.reduceAdd,Nat.reduceLeDiff,Nat.reduceLT,Nat.reduceSub,Int.reduceToNat,↓reduceIte,reduceCtorEq,encS_eq,List.length_cons,List.length_nil,ofI_nat,Int.reduceEq,decide_true,decide_false];first|exact rfl|((repeat refine ai ?_);intros;apply hk;clear hk K)))|apply qw8|apply qw1|refine qwc lvS3_152 ?_|apply qt1|apply qw5|apply qw2|apply qw9|apply qt2|apply qt3|apply qt4|apply qt5|apply qt6|apply qw3|apply qw4|apply qj1|apply qj2|apply qj3|apply qj4|apply qj5|apply qu1|apply qu2|(refine qj6 ?_ ?_<;>intro hc<;>(try simp only [hc])<;>(try simp only [decide_eq_true_eq,decide_eq_false_iff_not,Bool.not_eq_true',Bool.not_eq_false',Bool.not_eq_true,reduceCtorEq] at hc)<;>(try (exfalso;omega)))|(refine qt7 ?_ ?_;focus decide)|(refine qw7 ?_ ?_ ?_;(focus (decide +kernel));(focus (decide +kernel))))
   all_goals
    ((first|refine fin_ret ?_|refine fin_end ?_);simp only [go_sem,↓upd_def,Nat.reduceEqDiff,Nat.reduceAdd,↓reduceIte,reduceCtorEq])
    refine ⟨by omega,K_eq hK ?_⟩
    clear hK
    try rw [moreS_t (by decide)]
    try rw [moreS_a (by omega)]
    (repeat' split)<;>first|rfl|(exfalso;omega)|(exfalso;simp_all;done)|(exfalso;simp_all;omega)
 · have e2:=g2 (by decide)
   subst e2
   clear g1 g2 g3
   rw [stepV_5 rfl] at hK
   unfold entry
   repeat' (first|((first|apply qwd|apply qa1|apply qa2|apply qa3|apply qh1|apply qh2|apply qg1 rfl|apply qcd);(try intro K hk);focus (simp only [lvS3_152,mkT,go_sem,Nat.reduceEqDiff,Nat.reduceAdd,Nat.reduceLeDiff,Nat.reduceLT,Nat.reduceSub,Int.reduceToNat,↓reduceIte,reduceCtorEq,encS_eq,List.length_cons,List.length_nil,ofI_nat,Int.reduceEq,decide_true,decide_false];first|exact rfl|((repeat refine ai ?_);intros;apply hk;clear hk K)))|apply qw8|apply qw1|refine qwc lvS3_152 ?_|apply qt1|apply qw5|apply qw2|apply qw9|apply qt2|apply qt3|apply qt4|apply qt5|apply qt6|apply qw3|apply qw4|apply qj1|apply qj2|apply qj3|apply qj4|apply qj5|apply qu1|apply qu2|(refine qj6 ?_ ?_<;>intro hc<;>(try simp only [hc])<;>(try simp only [decide_eq_true_eq,decide_eq_false_iff_not,Bool.not_eq_true',Bool.not_eq_false',Bool.not_eq_true,reduceCtorEq] at hc)<;>(try (exfalso;omega)))|(refine qt7 ?_ ?_;focus decide)|(refine qw7 ?_ ?_ ?_;(focus (decide +kernel));(focus (decide +kernel))))
   all_goals
    ((first|refine fin_ret ?_|refine fin_end ?_);simp only [go_sem,↓upd_def,Nat.reduceEqDiff,Nat.reduceAdd,↓reduceIte,reduceCtorEq])
    refine ⟨by omega,K_eq hK ?_⟩
    clear hK
    try rw [moreS_t (by decide)]
    try rw [moreS_a (by omega)]
    (repeat' split)<;>first|rfl|(exfalso;omega)|(exfalso;simp_all;done)|(exfalso;simp_all;omega)
 · have e2:=g3 rfl
   subst e2
   clear g1 g2 g3
   rw [stepV_t (by simp),stepTagM] at hK
   unfold entry
   repeat' (first|((first|apply qwd|apply qa1|apply qa2|apply qa3|apply qh1|apply qh2|apply qg1 rfl|apply qcd);(try intro K hk);focus (simp only [lvS3_152,mkT,go_sem,Nat.reduceEqDiff,Nat.reduceAdd,Nat.reduceLeDiff,Nat.reduceLT,Nat.reduceSub,Int.reduceToNat,↓reduceIte,reduceCtorEq,encS_eq,List.length_cons,List.length_nil,ofI_nat,Int.reduceEq,decide_true,decide_false];first|exact rfl|((repeat refine ai ?_);intros;apply hk;clear hk K)))|apply qw8|apply qw1|refine qwc lvS3_152 ?_|apply qt1|apply qw5|apply qw2|apply qw9|apply qt2|apply qt3|apply qt4|apply qt5|apply qt6|apply qw3|apply qw4|apply qj1|apply qj2|apply qj3|apply qj4|apply qj5|apply qu1|apply qu2|(refine qj6 ?_ ?_<;>intro hc<;>(try simp only [hc])<;>(try simp only [decide_eq_true_eq,decide_eq_false_iff_not,Bool.not_eq_true',Bool.not_eq_false',Bool.not_eq_true,reduceCtorEq] at hc)<;>(try (exfalso;omega)))|(refine qt7 ?_ ?_;focus decide)|(refine qw7 ?_ ?_ ?_;(focus (decide +kernel));(focus (decide +kernel))))
   all_goals
    ((first|refine fin_ret ?_|refine fin_end ?_);simp only [go_sem,↓upd_def,Nat.reduceEqDiff,Nat.reduceAdd,↓reduceIte,reduceCtorEq])
    refine ⟨by omega,K_eq hK ?_⟩
    clear hK
    try rw [moreS_t (by decide)]
    try rw [moreS_a (by omega)]
    (repeat' split)<;>first|rfl|(exfalso;omega)|(exfalso;simp_all;done)|(exfalso;simp_all;omega)
end Go.Proofs.YtnbjogilidfkdaaGreat
