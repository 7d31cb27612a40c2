/- Contracts: states behind parts, faults: what the program and the reference come to. -/
import Derived.Test.YtnbjogilidfkdaaGreatVFP
import Derived.Test.YtnbjogilidfkdaaGreatVS0
import Derived.Test.YtnbjogilidfkdaaGreatVS6
import Derived.Test.YtnbjogilidfkdaaGreatVX8

namespace Go.Proofs.YtnbjogilidfkdaaGreat
attribute [local irreducible] awp arun acalm FinP Fin AX.then AX.inBlock Again aG gsel amix amixN amixC aop aopc aopd cutK
attribute [local go_sem] aBSliceD aSlice aSliceC boundOf aMk aCall aCallC aLenL aLen aPick_t aPick_f aNil aAlloc aBox aBuild bldPV aBSlice bsPV aApp newsOf destOf drp aConvX aConv aConvInt aLoad cellsAt aStore cellsPV setAt aFld aField aIdx aIndex aUn aBin' aBin aMax aExtract pvOf PV.isCell nmbL PV.nmb List.map_cons List.map_nil List.all_cons List.all_nil Bool.and_true Bool.true_and if_true if_false List.getD_cons_zero List.getD_cons_succ List.getD_nil Option.isSome_some true_and and_true and_self eq_self true_or or_true List.drop_zero List.drop_succ_cons List.drop_nil List.take_zero List.take_succ_cons List.take_nil List.length_cons List.length_nil List.length_map Option.getD_some Option.getD_none List.nil_append List.cons_append List.append_nil Option.some.injEq exists_eq_left' List.getElem?_cons_zero List.getElem?_cons_succ Int.toNat_natCast Int.natCast_inj toNat_succ Nat.zero_add res res1 resC owns owns1 ownsC List.flatMap_cons List.flatMap_nil List.flatten_cons List.flatten_nil List.mem_cons List.not_mem_nil or_false false_or forall_eq forall_eq_or_imp isFro frz frz1 pureC tabA isBld List.cons.injEq PV.seq.injEq PV.int.injEq PV.str.injEq PV.bool.injEq PV.agg.injEq inR tab Γof aRes packR Option.map_some Option.map_none rel Prod.exists exists_and_left exists_eq_left and_assoc beq_self_eq_true Bool.not_true Bool.not_false decide_true decide_false List.set_cons_zero List.set_cons_succ rst_nil rst_cons
attribute [local go_sem ↓] evT upd_def aop aopc aopd
set_option maxRecDepth 100000
set_option linter.unusedVariables false
set_option linter.unusedSimpArgs false
open Go.RowKit
def lvS7_53:Nat→List Nat
 | 0=>[1,2,4]
 | 1=>[1,2,4,5]
 | 2=>[2,4,5,11,12,13]
 | 3=>[2,4,5,11,12,13,14]
 | 4=>[2,4,5,7,11,12,13]
 | 5=>[2,4,5,7,11,12,13,18]
 | 6=>[2,4,5,7,11,12,13,18,19]
 | 7=>[2,4,5,11,12,13]
 | 8=>[2,4,5,7,11,12,13,18,25]
 | 9=>[2,4,5,11,12,13]
 | 10=>[2,4,5,7,11,12,13,18,29]
 | 11=>[2,4,5,8,9,11,12,13]
 | 12=>[2,4,5,8,11,12,13,41]
 | 13=>[4]
 | 14=>[2,4,5,11,12,13]
 | 15=>[2,4,5,7,11,12,13,44]
 | 16=>[2,4,5,11,12,13,51]
 | 17=>[4]
 | 18=>[2,4,5,11,12,13,55]
 | 19=>[4]
 | 20=>[2,4,5,11,12,13]
 | 21=>[4]
 | _=>[]
--LV=S7
theorem St_eta (s:St):(⟨s.mode,s.tag,s.attr,s.seen⟩:St)=s:=rfl
theorem eqSt (s t:St):(decide (s.mode=t.mode) && (decide (s.tag=t.tag) && (decide (s.attr=t.attr) && s.seen == t.seen)))=decide (s=t):=by
 cases s;cases t
 simp only [St.mk.injEq]
 rw [Bool.eq_iff_iff]
 simp
theorem chkL_snoc' {s:St} {xs:List PartD} {k:Nat} {x:PartD} (hv:stV s=true) (h:xs[k]?=some x):chkL s (xs.take (k+1))=if (chkP (chkL s (xs.take k)) x).mode=15 then bad else chkP (chkL s (xs.take k)) x:=by
 by_cases hs:s.mode=15
 · rw [mode15 hv hs,chkL_bad,chkL_bad,chkP_bad];rfl
 · by_cases hm:(chkL s (xs.take k)).mode=15
   · have e:=chkL_append (xs.take k) [x] s hs
     rw [if_pos hm,← take_snoc' h] at e
     rw [e,mode15 (stV_chkL _ _ hv) hm,chkP_bad];rfl
   · exact chkL_snoc h hs hm
theorem chkL_stop' {s:St} {xs:List PartD} {k:Nat} {x:PartD} (hv:stV s=true) (h:xs[k]?=some x) (hb:(chkP (chkL s (xs.take k)) x).mode=15):chkL s xs=bad:=by
 rw [← chkL_split xs (k+1) s hv,chkL_snoc' hv h,if_pos hb,chkL_bad]
theorem gd_mem {d:Nat} {x:PartD}: ∀ {xs:List PartD} {b:Bool} {k:Nat},gdL d b xs=true→xs[k]?=some x→gdP d x=true
 | [],_,_,_,h=>by simp at h
 | y::ys,b,0,hg,h=>by
   obtain rfl:y=x:=by simpa using h
   rw [gdL] at hg
   simp only [Bool.and_eq_true] at hg
   exact hg.1.1
 | y::ys,b,k+1,hg,h=>by
   rw [gdL] at hg
   simp only [Bool.and_eq_true] at hg
   exact gd_mem hg.2 (by simpa using h)
theorem gd_kids {d:Nat} {k:Int} {t n:Bs} {ps os:List PartD} (h:gdP d (.mk k t n ps os)=true):(k=1∨k=2∨k=3∨k=4)∧(∃ d b,gdL d b ps=true)∧(∃ d b,gdL d b os=true)∧(k=4→os=[]):=by
 rw [gdP_mk] at h
 split at h
 · rename_i e
   simp only [Bool.and_eq_true,decide_eq_true_eq] at h
   obtain ⟨⟨_,rfl⟩,rfl⟩:=h
   exact ⟨.inl e,⟨0,false,gdL_nil _ _⟩,⟨0,false,gdL_nil _ _⟩,fun _=>rfl⟩
 split at h
 · rename_i e
   simp only [Bool.and_eq_true,decide_eq_true_eq] at h
   obtain ⟨⟨_,rfl⟩,rfl⟩:=h
   exact ⟨.inr (.inl e),⟨0,false,gdL_nil _ _⟩,⟨0,false,gdL_nil _ _⟩,fun _=>rfl⟩
 split at h
 · rename_i e
   simp only [Bool.and_eq_true,decide_eq_true_eq] at h
   refine ⟨by omega,⟨_,_,h.1.2⟩,⟨_,_,h.2⟩,fun h4=>?_⟩
   have:=h.1.1.1.2
   simp [h4] at this
   exact this
 · cases h
@[go_sem] def chkC (n:Nat):PC:=rel (α:=St×List PartD) (fun x=>[.agg (encS x.1),.seq (encPs x.2)]) (fun x=>wtL x.2<n∧wtL x.2≤1099511627776∧stV x.1=true∧ ∃ d b,gdL d b x.2=true) (fun x=> .agg (encS (chkL x.1 x.2)))
@[go_sem] def chkQ:PC:=rel (α:=St×List PartD) (fun x=>[.agg (encS x.1),.seq (encPs x.2)]) (fun x=>wtL x.2≤1099511627776∧stV x.1=true∧ ∃ d b,gdL d b x.2=true) (fun x=> .agg (encS (chkL x.1 x.2)))
set_option maxHeartbeats 16000000 in
theorem chk_i: ∀ n,PureOk Tryz.prog 53 (chkC n):=by
 intro n
 induction n with
 | zero=>exact never_rel Tryz.func53 (by kernel_rfl) (by kernel_rfl) (fun x h=>by omega)
 | succ n ih =>
 refine pure_rel 2 (tab_cons ih (tab_cons after_i (tab_cons beh_i tab_nil))) mixed [.cell 4 48] Tryz.func53 rfl rfl (by kernel_rfl) (by kernel_rfl) (fun _=>rfl) (by kernel_rfl) ?_
 rintro ⟨s,xs⟩ K ⟨hn,hb,hv,d,b,hgd⟩ hK
 dsimp only at *
 clear ih
 have hlw:=len_le_wtL xs
 unfold entry
 repeat' (first|((first|apply qwd|apply qa1|apply qa2);(try intro K hk);focus (simp only [lvS7_53,mkT,go_sem,Nat.reduceEqDiff,Nat.reduceAdd,Nat.reduceLeDiff,Nat.reduceLT,↓reduceIte,reduceCtorEq,encS_eq];first|exact rfl|((repeat refine ai ?_);intros;apply hk;clear hk K)))|apply qw1|refine qwc lvS7_53 ?_|apply qt1|apply qw5)
 refine s_loop (ι:=Nat) (fun k=>[(2,.ref 0 0),(4,.ref 1 0),(5,.ref 2 0),(11,.seq (encPs xs)),(12,.int .i64 xs.length),(13,.int .i64 k)]) (fun k=>[(0,.box (encS (chkL s (xs.take k)))),(1,.box (encS st0)),(2,.box (encS bad))]) 3 (fun k=>k≤xs.length) (fun k=>xs.length - k) 0 (by omega) (by omega) ?_ ?_
 · simp [fits,fitsT,fitsM,upd_def,PV.nmb,nmbL,MB.nmb,chkL_nil,encS,st0,bad]
 intro k hk
 have hvk:=stV_chkL (xs.take k) s hv
 simp only [mkS,mkT,mkM]
 repeat' (first|((first|apply qwd|apply qa1|apply qa2|apply qcd);(try intro K hk);focus (simp only [lvS7_53,mkT,go_sem,Nat.reduceEqDiff,Nat.reduceAdd,Nat.reduceLeDiff,↓reduceIte,reduceCtorEq,encS_eq];first|exact rfl|((repeat refine ai ?_);intros;apply hk;clear hk K)))|apply qw1|refine qwc lvS7_53 ?_|apply qt1|apply qw5|apply qw2|apply qt2|apply qt5|apply qw3|apply qw4|apply qj1|apply qj4|(refine qj6 ?_ ?_<;>intro hc<;>(try simp only [hc])<;>(try simp only [decide_eq_true_eq,decide_eq_false_iff_not] at hc)<;>(try (exfalso;omega))))
 · obtain ⟨⟨kd,t,nm,ps,os⟩,hx⟩:=get_some (xs:=xs) (k:=k) (by omega)
   have htk:=take_snoc' hx
   have ws:=wtL_split hx
   rw [wtP_mk] at ws
   have hget:=encPs_get xs
   obtain ⟨hkd,hgp,hgo,hg4⟩:=gd_kids (gd_mem hgd hx)
   have hsn:=chkL_snoc' hv hx
   have hst:=chkL_stop' hv hx
   rw [chkP_mk] at hsn hst
   have ho:=okS_of hvk
   have hlp:=len_le_wtL ps
   have hlo:=len_le_wtL os
   generalize hcur:chkL s (xs.take k)=cur at *
   repeat' (first|((first|apply qwd|apply qa1|apply qa2|apply qa3|apply qcd);(try intro K hk);focus (simp only [lvS7_53,mkT,go_sem,Nat.reduceEqDiff,Nat.reduceAdd,Nat.reduceLeDiff,↓reduceIte,reduceCtorEq,hget,hx,encP_mk,encS_eq,ex_St,St_eta,eqSt];first|exact rfl|((repeat refine ai ?_);intros;apply hk;clear hk K)))|apply qw1|refine qwc lvS7_53 ?_|apply qt1|apply qw5|apply qw2|apply qw9|apply qt3|apply qt4|apply qt6|apply qw4|apply qj1|apply qj4|(refine qj6 ?_ ?_<;>intro hc<;>(try simp only [hc])<;>(try simp only [decide_eq_true_eq,decide_eq_false_iff_not,Bool.not_eq_true',Bool.not_eq_false'] at hc)<;>(try (exfalso;omega)))|(refine qw7 ?_ ?_ ?_;(focus (decide +kernel));(focus (decide +kernel))))
   all_goals (try (refine qw11 [0,3] [0,1,2,3,4,5,6,7] (.mk [0,1,2,3,4,5,6,7] (.cons 8 (.mk [] (.cons 9 (.mk [] (.cons 10 (.mk [] (.cons 11 (.mk [] .nil) .nil)) .nil)) .nil)) (.cons 9 (.mk [] (.cons 8 (.mk [] (.cons 10 (.mk [] (.cons 11 (.mk [] .nil) .nil)) .nil)) .nil)) .nil))) ?_ ?_;focus (decide +kernel)))
   all_goals repeat' (first|refine qm0 ?_|(first|((first|apply qwd|apply qa1|apply qa2|apply qm1|apply qm2|apply qm3|apply qcd);(try intro K hk);focus (simp only [lvS7_53,mkT,go_sem,Nat.reduceEqDiff,Nat.reduceAdd,Nat.reduceLeDiff,↓reduceIte,reduceCtorEq,encS_eq,ex_St,St_eta,eqSt];first|exact rfl|((repeat refine ai ?_);intros;apply hk;clear hk K)))|apply qw1|refine qwc lvS7_53 ?_|apply qt1|apply qw2|apply qt3|apply qt4|apply qt6|apply qw4|apply qj1|apply qj4|apply qyn|apply qy0|refine qy1 rfl ?_|refine qy2 rfl ?_ ?_|(refine qj6 ?_ ?_<;>intro hc<;>(try simp only [hc])<;>(try simp only [decide_eq_true_eq,decide_eq_false_iff_not,Bool.not_eq_true',Bool.not_eq_false'] at hc)<;>(try (exfalso;omega)))|(refine qk1 ?_ ?_;focus (repeat (first|exact qsub0|(refine qsub1 ?_ ?_;focus (simp only [go_sem,Nat.reduceEqDiff,↓reduceIte,reduceCtorEq])))))))
   all_goals first
    | (((first|refine fin_ret ?_|refine fin_end ?_);simp only [go_sem,↓upd_def,Nat.reduceAdd,↓reduceIte])
       refine ⟨by omega,K_eq hK ?_⟩
       clear hK
       rw [hst]
       · rfl
       · first
          | (rw [if_pos (by omega)];assumption)
          | (rw [if_neg (by omega),if_pos (by omega)];assumption)
          | (rw [if_neg (by omega),if_neg (by omega),if_neg (by omega),if_neg (show ¬ chkL cur ps=chkL cur os by assumption)];rfl)
          | (rw [if_neg (by omega),if_neg (by omega),if_neg (by omega),if_pos (show chkL cur ps=chkL cur os by assumption)];assumption)
          | (rw [if_neg (by omega),if_neg (by omega),if_pos (by omega),if_neg (show ¬ chkL cur ps=cur by assumption)];rfl)
          | (rw [if_neg (by omega),if_neg (by omega),if_pos (by omega),if_pos (show chkL cur ps=cur by assumption)];assumption))
    | (refine s_again (k+1) ?_ ?_ ?_<;>(first|omega|(dsimp only;omega)|skip)
       have hS:=hsn
       first
        | rw [if_pos (show kd=1 by omega),if_neg (show ¬ (afterS cur t).mode=15 by assumption)] at hS
        | rw [if_neg (show ¬ kd=1 by omega),if_pos (show kd=2 by omega),if_neg (show ¬ (behindM cur).mode=15 by assumption)] at hS
        | rw [if_neg (show ¬ kd=1 by omega),if_neg (show ¬ kd=2 by omega),if_neg (show ¬ kd=4 by omega),if_pos (show chkL cur ps=chkL cur os by assumption),if_neg (show ¬ (chkL cur ps).mode=15 by assumption)] at hS
        | rw [if_neg (show ¬ kd=1 by omega),if_neg (show ¬ kd=2 by omega),if_pos (show kd=4 by omega),if_pos (show chkL cur ps=cur by assumption),if_neg (show ¬ cur.mode=15 by assumption)] at hS
       simp [fits,fitsT,fitsM,upd_def,PV.nmb,nmbL,MB.nmb,hS,encS,st0,bad])
    | skip
 · obtain rfl:k=xs.length:=by omega
   rw [List.take_length] at *
   ((first|refine fin_ret ?_|refine fin_end ?_);simp only [go_sem,↓upd_def,Nat.reduceAdd,↓reduceIte])
   exact ⟨by omega,hK⟩
end Go.Proofs.YtnbjogilidfkdaaGreat
