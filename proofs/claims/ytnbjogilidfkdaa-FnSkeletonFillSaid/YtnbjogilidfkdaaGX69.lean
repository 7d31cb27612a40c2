/- Contracts: data of one shape. -/
import Derived.Test.YtnbjogilidfkdaaGX16

namespace Go.Proofs.Ytnbjogilidfkdaa
attribute [local irreducible] awp arun acalm FinP Fin AX.then AX.inBlock Again aG gsel amix amixN amixC aop aopc aopd cutK
attribute [local go_sem] aBSliceD aSlice aSliceC boundOf aMk aCall aCallC aLenL aLen aPick_t aPick_f aNil aAlloc aBox aBuild bldPV aBSlice bsPV aApp newsOf destOf drp aConvX aConv aConvInt aLoad cellsAt aStore cellsPV setAt aFld aField aIdx aIndex aUn aBin' aBin aMax aExtract pvOf PV.isCell nmbL PV.nmb List.map_cons List.map_nil List.all_cons List.all_nil Bool.and_true Bool.true_and if_true if_false List.getD_cons_zero List.getD_cons_succ List.getD_nil Option.isSome_some true_and and_true and_self eq_self true_or or_true List.drop_zero List.drop_succ_cons List.drop_nil List.take_zero List.take_succ_cons List.take_nil List.length_cons List.length_nil List.length_map Option.getD_some Option.getD_none List.nil_append List.cons_append List.append_nil Option.some.injEq exists_eq_left' List.getElem?_cons_zero List.getElem?_cons_succ Int.toNat_natCast Int.natCast_inj toNat_succ Nat.zero_add res res1 resC owns owns1 ownsC List.flatMap_cons List.flatMap_nil List.flatten_cons List.flatten_nil List.mem_cons List.not_mem_nil or_false false_or forall_eq forall_eq_or_imp isFro frz frz1 pureC tabA isBld List.cons.injEq PV.seq.injEq PV.int.injEq PV.str.injEq PV.bool.injEq PV.agg.injEq inR tab Γof aRes packR Option.map_some Option.map_none rel Prod.exists exists_and_left exists_eq_left and_assoc beq_self_eq_true Bool.not_true Bool.not_false decide_true decide_false List.set_cons_zero List.set_cons_succ rst_nil rst_cons
attribute [local go_sem ↓] evT upd_def aop aopc aopd
set_option maxRecDepth 100000
set_option linter.unusedVariables false
set_option linter.unusedSimpArgs false
open Go.RowKit
def lvX69_37:Nat→List Nat
 | 0=>[0,1]
 | 1=>[0,1,21]
 | 2=>[4]
 | 3=>[1,22,23,24]
 | 4=>[1,22,23,24,25]
 | 5=>[1,5,6,22,23,24]
 | 6=>[1,22,23,24,58]
 | 7=>[4]
 | 8=>[1,22,23,24]
 | 9=>[4]
 | _=>[]
def lvX69_38:Nat→List Nat
 | 0=>[0,1]
 | 1=>[0,1,20]
 | 2=>[4]
 | 3=>[0,1,5]
 | 4=>[0,1,5,24]
 | 5=>[0,1,5]
 | 6=>[0,1,5,65]
 | 7=>[4]
 | 8=>[4]
 | _=>[]
--LV=X69
@[go_sem] def shC:PC:=rel (α:=List FieldD×List FieldD) (fun x=>[.seq (encFs x.1),.seq (encFs x.2)]) (fun x=>okF x.1∧okF x.2) (fun x=> .bool (shM x.1 x.2))
set_option maxHeartbeats 8000000 in
theorem ss_i:PureOk Try.prog 37 shC:=by
 refine pure_rel 2 (tab_cons dv_i tab_nil) mixed [.tmp 4] Try.func37 rfl rfl (by kernel_rfl) (by kernel_rfl) (fun _=>rfl) (by kernel_rfl) ?_
 rintro ⟨a,b⟩ K ⟨ha,hb⟩ hK
 dsimp only at *
 unfold shM at hK
 have hal:=ha.1
 have hbl:=hb.1
 unfold entry
 cases h1:dataB a
 · rw [h1,Bool.false_and,Bool.false_and] at hK
   repeat' (first|((first|apply qwd|apply qa1|apply qg1 rfl|apply qcd);(try intro K hk);focus (simp only [lvX69_37,mkT,go_sem,Nat.reduceEqDiff,↓reduceIte,reduceCtorEq,h1,encFs_iff,Bool.not_false];first|exact rfl|((repeat refine ai ?_);intros;apply hk;clear hk K)))|apply qw1|refine qwc lvX69_37 ?_|apply qt1|apply qt3|apply qw4|apply qj1|apply qj3|apply qu1)
   ((first|refine fin_ret ?_|refine fin_end ?_);simp only [go_sem,↓upd_def,↓reduceIte])
   exact hK
 cases h2:dataB b
 · rw [h1,h2,Bool.true_and,Bool.false_and] at hK
   repeat' (first|((first|apply qwd|apply qa1|apply qh1|apply qg1 rfl|apply qcd);(try intro K hk);focus (simp only [lvX69_37,mkT,go_sem,Nat.reduceEqDiff,↓reduceIte,reduceCtorEq,h1,h2,encFs_iff,Bool.not_false,Bool.not_true];first|exact rfl|((repeat refine ai ?_);intros;apply hk;clear hk K)))|apply qw1|refine qwc lvX69_37 ?_|apply qt1|apply qt3|apply qw4|apply qj1|apply qj2|apply qj3|apply qu1)
   ((first|refine fin_ret ?_|refine fin_end ?_);simp only [go_sem,↓upd_def,↓reduceIte])
   exact hK
 rw [h1,h2,Bool.true_and,Bool.true_and] at hK
 by_cases hl:a.length=b.length
 · have hl2:(a.length:Int)=b.length:=by omega
   repeat' (first|((first|apply qwd|apply qa1|apply qh1|apply qg1 rfl|apply qcd);(try intro K hk);focus (simp only [lvX69_37,mkT,go_sem,Nat.reduceEqDiff,↓reduceIte,reduceCtorEq,h1,h2,encFs_iff,encFs_length,Bool.not_true];first|exact rfl|((repeat refine ai ?_);intros;apply hk;clear hk K)))|apply qw1|refine qwc lvX69_37 ?_|apply qt1|apply qw5|apply qw2|apply qj2|apply qj4|apply qu1|(refine qj6 ?_ ?_<;>intro hc<;>(try simp only [hc])<;>(try simp only [decide_eq_true_eq,decide_eq_false_iff_not,Bool.not_eq_true',Bool.not_eq_false'] at hc)<;>(try (exfalso;omega))))
   refine s_loop (ι:=Nat) (fun k=>[(1,.seq (encFs b)),(22,.seq (encFs a)),(23,.int .i64 a.length),(24,.int .i64 k)]) (fun _=>[]) 0 (fun k=>k≤a.length∧likeB (a.drop k) (b.drop k)=likeB a b) (fun k=>a.length - k) 0 (by omega) ⟨Nat.zero_le _,rfl⟩ ?_ ?_
   · simp [fits,fitsT,fitsM,upd_def,PV.nmb]
   rintro k ⟨hk,hev⟩
   simp only [mkS,mkT,mkM]
   by_cases hkl:k<a.length
   · obtain ⟨⟨fn,ft,fh,fi⟩,hx⟩:=get_some (xs:=a) (k:=k) hkl
     obtain ⟨⟨gn,gt,gh,gi⟩,hy⟩:=get_some (xs:=b) (k:=k) (by omega)
     obtain ⟨p1,p2,p3,p4⟩:=okF_get ha hx
     obtain ⟨q1,q2,q3,q4⟩:=okF_get hb hy
     dsimp only at p1 p2 p3 p4 q1 q2 q3 q4
     have hg:(encFs a)[k]?=some [.str fn,.str ft,.bool fh,.seq (strs fi)]:=by rw [encFs_get,hx];rfl
     have hg2:(encFs b)[k]?=some [.str gn,.str gt,.bool gh,.seq (strs gi)]:=by rw [encFs_get,hy];rfl
     have hkn:((k:Nat):Int).toNat=k:=Int.toNat_natCast k
     have hfl:=strs_length fi
     have hgl:=strs_length gi
     rw [likeB_at hx hy] at hev
     have hlf:likeFB ⟨fn,ft,fh,fi⟩ ⟨gn,gt,gh,gi⟩=(decide (fn=gn) && decide (fh=gh) && decide (fi.length=gi.length)):=rfl
     rw [hlf] at hev
     by_cases c1:fn=gn
     · subst c1
       by_cases c2:fh=gh
       · subst c2
         by_cases c3:fi.length=gi.length
         · have c3':(fi.length:Int)=gi.length:=by omega
           rw [decide_eq_true rfl,decide_eq_true rfl,decide_eq_true c3,Bool.true_and,Bool.true_and] at hev
           repeat' (first|((first|apply qwd|apply qa1|apply qa2|apply qa3|apply qh2|apply qg1 rfl|apply qcd);(try intro K hk);focus (simp only [lvX69_37,mkT,go_sem,Nat.reduceEqDiff,Nat.reduceAdd,Nat.reduceLeDiff,↓reduceIte,reduceCtorEq,hg,hg2,hkn,hfl,hgl,c3,decide_true,Bool.not_true];first|exact rfl|((repeat refine ai ?_);intros;apply hk;clear hk K)))|apply qw1|refine qwc lvX69_37 ?_|apply qt1|apply qw5|apply qw2|apply qw9|apply qt4|apply qj1|apply qj2|apply qj4|apply qu2|(refine qj6 ?_ ?_<;>intro hc<;>(try simp only [hc])<;>(try simp only [decide_eq_true_eq,decide_eq_false_iff_not] at hc)<;>(try (exfalso;omega)))|(refine qw7 ?_ ?_ ?_;(focus (decide +kernel));(focus (decide +kernel))))
           refine s_again (k+1) ?_ ?_ ?_<;>(first|omega|(dsimp only;omega)|skip)
           all_goals first
            | exact ⟨by omega,hev⟩
            | (simp [fits,fitsT,fitsM,upd_def,PV.nmb];done)
         · have c3': ¬ (fi.length:Int)=gi.length:=by omega
           rw [decide_eq_false c3,Bool.and_false,Bool.false_and] at hev
           rw [← hev] at hK
           repeat' (first|((first|apply qwd|apply qa1|apply qa2|apply qa3|apply qh2|apply qg1 rfl|apply qcd);(try intro K hk);focus (simp only [lvX69_37,mkT,go_sem,Nat.reduceEqDiff,Nat.reduceAdd,Nat.reduceLeDiff,↓reduceIte,reduceCtorEq,hg,hg2,hkn,hfl,hgl,decide_true,Bool.not_true];first|exact rfl|((repeat refine ai ?_);intros;apply hk;clear hk K)))|apply qw1|refine qwc lvX69_37 ?_|apply qt1|apply qw5|apply qw2|apply qw9|apply qt3|apply qt6|apply qw4|apply qj1|apply qj2|apply qu2|(refine qj6 ?_ ?_<;>intro hc<;>(try simp only [hc])<;>(try simp only [decide_eq_true_eq,decide_eq_false_iff_not,Bool.not_eq_true',Bool.not_eq_false'] at hc)<;>(try (exfalso;omega)))|(refine qw7 ?_ ?_ ?_;(focus (decide +kernel));(focus (decide +kernel))))
           ((first|refine fin_ret ?_|refine fin_end ?_);simp only [go_sem,↓upd_def,↓reduceIte])
           exact hK
       · rw [decide_eq_false c2,Bool.and_false,Bool.false_and,Bool.false_and] at hev
         rw [← hev] at hK
         have cb:(fh == gh)=false:=by simp [c2]
         repeat' (first|((first|apply qwd|apply qa1|apply qa2|apply qa3|apply qh2|apply qg1 rfl|apply qcd);(try intro K hk);focus (simp only [lvX69_37,mkT,go_sem,Nat.reduceEqDiff,Nat.reduceAdd,Nat.reduceLeDiff,↓reduceIte,reduceCtorEq,hg,hg2,hkn,cb,decide_true,Bool.not_true,Bool.not_false];first|exact rfl|((repeat refine ai ?_);intros;apply hk;clear hk K)))|apply qw1|refine qwc lvX69_37 ?_|apply qt1|apply qw5|apply qw2|apply qw9|apply qt3|apply qt6|apply qw4|apply qj1|apply qj2|apply qj3|apply qu2|(refine qj6 ?_ ?_<;>intro hc<;>(try simp only [hc])<;>(try simp only [decide_eq_true_eq,decide_eq_false_iff_not] at hc)<;>(try (exfalso;omega)))|(refine qw7 ?_ ?_ ?_;(focus (decide +kernel));(focus (decide +kernel))))
         ((first|refine fin_ret ?_|refine fin_end ?_);simp only [go_sem,↓upd_def,↓reduceIte])
         exact hK
     · rw [decide_eq_false c1,Bool.false_and,Bool.false_and,Bool.false_and] at hev
       rw [← hev] at hK
       repeat' (first|((first|apply qwd|apply qa1|apply qa2|apply qa3|apply qg1 rfl|apply qcd);(try intro K hk);focus (simp only [lvX69_37,mkT,go_sem,Nat.reduceEqDiff,Nat.reduceAdd,Nat.reduceLeDiff,↓reduceIte,reduceCtorEq,hg,hg2,hkn,c1,decide_false,Bool.not_false];first|exact rfl|((repeat refine ai ?_);intros;apply hk;clear hk K)))|apply qw1|refine qwc lvX69_37 ?_|apply qt1|apply qw5|apply qw2|apply qw9|apply qt3|apply qt6|apply qw4|apply qj1|apply qj3|apply qu2|(refine qj6 ?_ ?_<;>intro hc<;>(try simp only [hc])<;>(try simp only [decide_eq_true_eq,decide_eq_false_iff_not] at hc)<;>(try (exfalso;omega)))|(refine qw7 ?_ ?_ ?_;(focus (decide +kernel));(focus (decide +kernel))))
       ((first|refine fin_ret ?_|refine fin_end ?_);simp only [go_sem,↓upd_def,↓reduceIte])
       exact hK
   · obtain rfl:k=a.length:=by omega
     rw [likeB_end hl] at hev
     rw [← hev] at hK
     repeat' (first|((first|apply qwd|apply qa1|apply qcd);(try intro K hk);focus (simp only [lvX69_37,mkT,go_sem,Nat.reduceEqDiff,↓reduceIte];first|exact rfl|((repeat refine ai ?_);intros;apply hk;clear hk K)))|apply qw1|refine qwc lvX69_37 ?_|apply qt1|apply qt2|apply qt5|apply qw3|apply qw4|apply qj4|(refine qj6 ?_ ?_<;>intro hc<;>(try simp only [hc])<;>(try simp only [decide_eq_true_eq,decide_eq_false_iff_not] at hc)<;>(try (exfalso;omega))))
     ((first|refine fin_ret ?_|refine fin_end ?_);simp only [go_sem,↓upd_def,↓reduceIte])
     exact hK
 · rw [likeB_len hl] at hK
   have hl2: ¬ (a.length:Int)=b.length:=by omega
   repeat' (first|((first|apply qwd|apply qa1|apply qh1|apply qg1 rfl|apply qcd);(try intro K hk);focus (simp only [lvX69_37,mkT,go_sem,Nat.reduceEqDiff,↓reduceIte,reduceCtorEq,h1,h2,encFs_iff,encFs_length,Bool.not_true];first|exact rfl|((repeat refine ai ?_);intros;apply hk;clear hk K)))|apply qw1|refine qwc lvX69_37 ?_|apply qt1|apply qt3|apply qw4|apply qj1|apply qj2|apply qu1|(refine qj6 ?_ ?_<;>intro hc<;>(try simp only [hc])<;>(try simp only [decide_eq_true_eq,decide_eq_false_iff_not,Bool.not_eq_true',Bool.not_eq_false'] at hc)<;>(try (exfalso;omega))))
   ((first|refine fin_ret ?_|refine fin_end ?_);simp only [go_sem,↓upd_def,↓reduceIte])
   exact hK
set_option maxHeartbeats 8000000 in
theorem ss_s:PureOk Try.prog 38 shC:=by
 refine pure_rel 2 (tab_cons dv_s tab_nil) mixed [.tmp 4] Try.func38 rfl rfl (by kernel_rfl) (by kernel_rfl) (fun _=>rfl) (by kernel_rfl) ?_
 rintro ⟨a,b⟩ K ⟨ha,hb⟩ hK
 dsimp only at *
 unfold shM at hK
 have hal:=ha.1
 have hbl:=hb.1
 unfold entry
 cases h1:dataB a
 · rw [h1,Bool.false_and,Bool.false_and] at hK
   repeat' (first|((first|apply qwd|apply qa1|apply qg1 rfl|apply qcd);(try intro K hk);focus (simp only [lvX69_38,mkT,go_sem,Nat.reduceEqDiff,↓reduceIte,reduceCtorEq,h1,encFs_iff,Bool.not_false];first|exact rfl|((repeat refine ai ?_);intros;apply hk;clear hk K)))|apply qw1|refine qwc lvX69_38 ?_|apply qt1|apply qt3|apply qw4|apply qj1|apply qj3|apply qu1)
   ((first|refine fin_ret ?_|refine fin_end ?_);simp only [go_sem,↓upd_def,↓reduceIte])
   exact hK
 cases h2:dataB b
 · rw [h1,h2,Bool.true_and,Bool.false_and] at hK
   repeat' (first|((first|apply qwd|apply qa1|apply qh1|apply qg1 rfl|apply qcd);(try intro K hk);focus (simp only [lvX69_38,mkT,go_sem,Nat.reduceEqDiff,↓reduceIte,reduceCtorEq,h1,h2,encFs_iff,Bool.not_false,Bool.not_true];first|exact rfl|((repeat refine ai ?_);intros;apply hk;clear hk K)))|apply qw1|refine qwc lvX69_38 ?_|apply qt1|apply qt3|apply qw4|apply qj1|apply qj2|apply qj3|apply qu1)
   ((first|refine fin_ret ?_|refine fin_end ?_);simp only [go_sem,↓upd_def,↓reduceIte])
   exact hK
 rw [h1,h2,Bool.true_and,Bool.true_and] at hK
 by_cases hl:a.length=b.length
 · have hl2:(a.length:Int)=b.length:=by omega
   repeat' (first|((first|apply qwd|apply qa1|apply qh1|apply qg1 rfl|apply qcd);(try intro K hk);focus (simp only [lvX69_38,mkT,go_sem,Nat.reduceEqDiff,↓reduceIte,reduceCtorEq,h1,h2,encFs_iff,encFs_length,Bool.not_true];first|exact rfl|((repeat refine ai ?_);intros;apply hk;clear hk K)))|apply qw1|refine qwc lvX69_38 ?_|apply qt1|apply qw5|apply qw2|apply qj2|apply qj4|apply qu1|(refine qj6 ?_ ?_<;>intro hc<;>(try simp only [hc])<;>(try simp only [decide_eq_true_eq,decide_eq_false_iff_not,Bool.not_eq_true',Bool.not_eq_false'] at hc)<;>(try (exfalso;omega))))
   refine s_loop (ι:=Nat) (fun k=>[(0,.seq (encFs a)),(1,.seq (encFs b)),(5,.int .i64 k)]) (fun _=>[]) 0 (fun k=>k≤a.length∧likeB (a.drop k) (b.drop k)=likeB a b) (fun k=>a.length - k) 0 (by omega) ⟨Nat.zero_le _,rfl⟩ ?_ ?_
   · simp [fits,fitsT,fitsM,upd_def,PV.nmb]
   rintro k ⟨hk,hev⟩
   simp only [mkS,mkT,mkM]
   by_cases hkl:k<a.length
   · obtain ⟨⟨fn,ft,fh,fi⟩,hx⟩:=get_some (xs:=a) (k:=k) hkl
     obtain ⟨⟨gn,gt,gh,gi⟩,hy⟩:=get_some (xs:=b) (k:=k) (by omega)
     obtain ⟨p1,p2,p3,p4⟩:=okF_get ha hx
     obtain ⟨q1,q2,q3,q4⟩:=okF_get hb hy
     dsimp only at p1 p2 p3 p4 q1 q2 q3 q4
     have hg:(encFs a)[k]?=some [.str fn,.str ft,.bool fh,.seq (strs fi)]:=by rw [encFs_get,hx];rfl
     have hg2:(encFs b)[k]?=some [.str gn,.str gt,.bool gh,.seq (strs gi)]:=by rw [encFs_get,hy];rfl
     have hkn:((k:Nat):Int).toNat=k:=Int.toNat_natCast k
     have hfl:=strs_length fi
     have hgl:=strs_length gi
     rw [likeB_at hx hy] at hev
     have hlf:likeFB ⟨fn,ft,fh,fi⟩ ⟨gn,gt,gh,gi⟩=(decide (fn=gn) && decide (fh=gh) && decide (fi.length=gi.length)):=rfl
     rw [hlf] at hev
     by_cases c1:fn=gn
     · subst c1
       by_cases c2:fh=gh
       · subst c2
         by_cases c3:fi.length=gi.length
         · have c3':(fi.length:Int)=gi.length:=by omega
           rw [decide_eq_true rfl,decide_eq_true rfl,decide_eq_true c3,Bool.true_and,Bool.true_and] at hev
           repeat' (first|((first|apply qwd|apply qa1|apply qa3|apply qh2|apply qg1 rfl|apply qcd);(try intro K hk);focus (simp only [lvX69_38,mkT,go_sem,Nat.reduceEqDiff,Nat.reduceAdd,↓reduceIte,reduceCtorEq,hg,hg2,hkn,hfl,hgl,encFs_length,c3,decide_true,Bool.not_true];first|exact rfl|((repeat refine ai ?_);intros;apply hk;clear hk K)))|apply qw1|refine qwc lvX69_38 ?_|apply qt1|apply qw5|apply qw2|apply qw9|apply qt4|apply qj1|apply qj2|apply qj4|apply qu2|(refine qj6 ?_ ?_<;>intro hc<;>(try simp only [hc])<;>(try simp only [decide_eq_true_eq,decide_eq_false_iff_not] at hc)<;>(try (exfalso;omega)))|(refine qw7 ?_ ?_ ?_;(focus (decide +kernel));(focus (decide +kernel))))
           refine s_again (k+1) ?_ ?_ ?_<;>(first|omega|(dsimp only;omega)|skip)
           all_goals first
            | exact ⟨by omega,hev⟩
            | (simp [fits,fitsT,fitsM,upd_def,PV.nmb];done)
         · have c3': ¬ (fi.length:Int)=gi.length:=by omega
           rw [decide_eq_false c3,Bool.and_false,Bool.false_and] at hev
           rw [← hev] at hK
           repeat' (first|((first|apply qwd|apply qa1|apply qa3|apply qh2|apply qg1 rfl|apply qcd);(try intro K hk);focus (simp only [lvX69_38,mkT,go_sem,Nat.reduceEqDiff,Nat.reduceAdd,↓reduceIte,reduceCtorEq,hg,hg2,hkn,hfl,hgl,encFs_length,decide_true,Bool.not_true];first|exact rfl|((repeat refine ai ?_);intros;apply hk;clear hk K)))|apply qw1|refine qwc lvX69_38 ?_|apply qt1|apply qw5|apply qw2|apply qw9|apply qt3|apply qt6|apply qw4|apply qj1|apply qj2|apply qu2|(refine qj6 ?_ ?_<;>intro hc<;>(try simp only [hc])<;>(try simp only [decide_eq_true_eq,decide_eq_false_iff_not,Bool.not_eq_true',Bool.not_eq_false'] at hc)<;>(try (exfalso;omega)))|(refine qw7 ?_ ?_ ?_;(focus (decide +kernel));(focus (decide +kernel))))
           ((first|refine fin_ret ?_|refine fin_end ?_);simp only [go_sem,↓upd_def,↓reduceIte])
           exact hK
       · rw [decide_eq_false c2,Bool.and_false,Bool.false_and,Bool.false_and] at hev
         rw [← hev] at hK
         have cb:(fh == gh)=false:=by simp [c2]
         repeat' (first|((first|apply qwd|apply qa1|apply qa3|apply qh2|apply qg1 rfl|apply qcd);(try intro K hk);focus (simp only [lvX69_38,mkT,go_sem,Nat.reduceEqDiff,Nat.reduceAdd,↓reduceIte,reduceCtorEq,hg,hg2,hkn,encFs_length,cb,decide_true,Bool.not_true,Bool.not_false];first|exact rfl|((repeat refine ai ?_);intros;apply hk;clear hk K)))|apply qw1|refine qwc lvX69_38 ?_|apply qt1|apply qw5|apply qw2|apply qw9|apply qt3|apply qt6|apply qw4|apply qj1|apply qj2|apply qj3|apply qu2|(refine qj6 ?_ ?_<;>intro hc<;>(try simp only [hc])<;>(try simp only [decide_eq_true_eq,decide_eq_false_iff_not] at hc)<;>(try (exfalso;omega)))|(refine qw7 ?_ ?_ ?_;(focus (decide +kernel));(focus (decide +kernel))))
         ((first|refine fin_ret ?_|refine fin_end ?_);simp only [go_sem,↓upd_def,↓reduceIte])
         exact hK
     · rw [decide_eq_false c1,Bool.false_and,Bool.false_and,Bool.false_and] at hev
       rw [← hev] at hK
       repeat' (first|((first|apply qwd|apply qa1|apply qa3|apply qg1 rfl|apply qcd);(try intro K hk);focus (simp only [lvX69_38,mkT,go_sem,Nat.reduceEqDiff,Nat.reduceAdd,↓reduceIte,reduceCtorEq,hg,hg2,hkn,encFs_length,c1,decide_false,Bool.not_false];first|exact rfl|((repeat refine ai ?_);intros;apply hk;clear hk K)))|apply qw1|refine qwc lvX69_38 ?_|apply qt1|apply qw5|apply qw2|apply qw9|apply qt3|apply qt6|apply qw4|apply qj1|apply qj3|apply qu2|(refine qj6 ?_ ?_<;>intro hc<;>(try simp only [hc])<;>(try simp only [decide_eq_true_eq,decide_eq_false_iff_not] at hc)<;>(try (exfalso;omega)))|(refine qw7 ?_ ?_ ?_;(focus (decide +kernel));(focus (decide +kernel))))
       ((first|refine fin_ret ?_|refine fin_end ?_);simp only [go_sem,↓upd_def,↓reduceIte])
       exact hK
   · obtain rfl:k=a.length:=by omega
     rw [likeB_end hl] at hev
     rw [← hev] at hK
     repeat' (first|((first|apply qwd|apply qa1|apply qcd);(try intro K hk);focus (simp only [lvX69_38,mkT,go_sem,Nat.reduceEqDiff,↓reduceIte,reduceCtorEq,encFs_length];first|exact rfl|((repeat refine ai ?_);intros;apply hk;clear hk K)))|apply qw1|refine qwc lvX69_38 ?_|apply qt1|apply qt2|apply qt5|apply qw3|apply qw4|apply qj4|(refine qj6 ?_ ?_<;>intro hc<;>(try simp only [hc])<;>(try simp only [decide_eq_true_eq,decide_eq_false_iff_not] at hc)<;>(try (exfalso;omega))))
     ((first|refine fin_ret ?_|refine fin_end ?_);simp only [go_sem,↓upd_def,↓reduceIte])
     exact hK
 · rw [likeB_len hl] at hK
   have hl2: ¬ (a.length:Int)=b.length:=by omega
   repeat' (first|((first|apply qwd|apply qa1|apply qh1|apply qg1 rfl|apply qcd);(try intro K hk);focus (simp only [lvX69_38,mkT,go_sem,Nat.reduceEqDiff,↓reduceIte,reduceCtorEq,h1,h2,encFs_iff,encFs_length,Bool.not_true];first|exact rfl|((repeat refine ai ?_);intros;apply hk;clear hk K)))|apply qw1|refine qwc lvX69_38 ?_|apply qt1|apply qt3|apply qw4|apply qj1|apply qj2|apply qu1|(refine qj6 ?_ ?_<;>intro hc<;>(try simp only [hc])<;>(try simp only [decide_eq_true_eq,decide_eq_false_iff_not,Bool.not_eq_true',Bool.not_eq_false'] at hc)<;>(try (exfalso;omega))))
   ((first|refine fin_ret ?_|refine fin_end ?_);simp only [go_sem,↓upd_def,↓reduceIte])
   exact hK
end Go.Proofs.Ytnbjogilidfkdaa
