/- Valid tokens by steps; how long they are printed; safe markup by steps. Plain. -/
import Derived.Test.YtnbjogilidfkdaaHK21

namespace Go.Proofs.Ytnbjogilidfkdaa
set_option maxRecDepth 100000
set_option linter.unusedVariables false
set_option linter.unusedSimpArgs false
open Go.RowKit
/-- Small tokens that may stay. -/
def gdTks (l:List TokD):Prop:=smTks l∧ ∀ t ∈ l,goodT t
theorem gd_clean {s:Bs} {l:List TokD} (h:tokM s=some l):gdTks (cleanMk l):=⟨sm_clean h,clean_good (tok_wf h).1⟩
/-- The token before the k-th one. -/
def befT (l:List TokD) (k:Nat):TokD:=if k=0 then tk0 else l.getD (k - 1) tk0
theorem bef_zero (l:List TokD):befT l 0=tk0:=rfl
theorem bef_succ {l:List TokD} {k:Nat} {t:TokD} (h:l[k]?=some t):befT l (k+1)=t:=by
 unfold befT
 rw [if_neg (by omega),Nat.add_sub_cancel,List.getD_eq_getElem?_getD,h];rfl
theorem bef_at {l:List TokD} {k:Nat} {t:TokD} (hk:k≠0) (h:l[k - 1]?=some t):befT l k=t:=by
 unfold befT
 rw [if_neg hk,List.getD_eq_getElem?_getD,h];rfl
theorem bef_kind {l:List TokD} (h: ∀ t ∈ l,goodT t) {k:Nat} (hk:k≤l.length):(befT l k).kind≠5∧insideT (befT l k)=false:=by
 unfold befT
 split
 · exact ⟨by decide,by decide⟩
 · obtain ⟨t,ht⟩:=get_some (xs:=l) (k:=k - 1) (by omega)
   rw [List.getD_eq_getElem?_getD,ht]
   obtain ⟨h1,h2,_⟩:=h t (List.mem_of_getElem? ht)
   refine ⟨by show t.kind≠5;omega,?_⟩
   show insideT t=false
   unfold insideT
   by_cases hk:t.kind=2
   · have h3:=h2 (by omega)
     have:t.name≠script:=by
      intro e
      rw [e] at h3
      revert h3;decide
     simp [this]
   · simp [hk]
theorem tvF_at {l:List TokD} {k:Nat} {t:TokD} (h:l[k]?=some t):tvF (befT l k) (l.drop k)=(tvT (befT l k) t && tvF (befT l (k+1)) (l.drop (k+1))):=by
 rw [drop_tk h,tvF,bef_succ h]
theorem tvF_end {l:List TokD} (h: ∀ t ∈ l,goodT t):tvF (befT l l.length) (l.drop l.length)=true:=by
 obtain ⟨h1,h2⟩:=bef_kind h (Nat.le_refl _)
 rw [List.drop_length,tvF,h2]
 simp [h1]
theorem tv_1 {b:TokD} (h5:b.kind≠5) (hi:insideT b=false) (n v:Bs) (ps:List (Bs×Bs)):tvT b ⟨1,n,v,ps⟩=(decide (n=[]) && decide (ps=[]) && decide (v≠[]) && textB v && decide (b.kind≠1)):=by
 unfold tvT
 rw [if_pos rfl,hi]
 simp [h5]
theorem tv_2 {b:TokD} (h5:b.kind≠5) (hi:insideT b=false) (n v:Bs) (ps:List (Bs×Bs)) (hp:ps.length≤60):tvT b ⟨2,n,v,ps⟩=(ps.all (fun p=>nameB p.1 && textB p.2) && nameB n && decide (v=[])):=by
 unfold tvT
 rw [if_neg (show ¬ ((2:Int)=1) by omega),if_pos rfl,hi]
 simp [h5,hp]
theorem tv_3 (b:TokD) (n v:Bs) (ps:List (Bs×Bs)):tvT b ⟨3,n,v,ps⟩=(nameB n && decide (v=[]) && decide (ps=[])):=by
 unfold tvT
 rw [if_neg (show ¬ ((3:Int)=1) by omega),if_neg (show ¬ ((3:Int)=2) by omega),if_pos rfl]
theorem tvF_stop {l:List TokD} {k:Nat} {t:TokD} (h:l[k]?=some t) (ht:tvT (befT l k) t=false):tvF (befT l k) (l.drop k)=false:=by rw [tvF_at h,ht];rfl
theorem tvF_go {l:List TokD} {k:Nat} {t:TokD} (h:l[k]?=some t) (ht:tvT (befT l k) t=true):tvF (befT l (k+1)) (l.drop (k+1))=tvF (befT l k) (l.drop k):=by rw [tvF_at h,ht,Bool.true_and]
theorem tkStop {α:Type} {p:α→Bool} {l:List α} {k:Nat} {x:α} (h:l[k]?=some x) (hp:p x=false):l.all p=false:=by
 rw [List.all_eq_false]
 exact ⟨x,List.mem_of_getElem? h,by simp [hp]⟩
theorem tkTake {α:Type} {p:α→Bool} {l:List α} {k:Nat} {x:α} (h:l[k]?=some x) (hk:(l.take k).all p=true) (hp:p x=true):(l.take (k+1)).all p=true:=by
 rw [take_snoc' h,List.all_append,hk];simp [hp]
theorem printP_len {p:Bs×Bs} (h1:p.1.length≤10) (h2:p.2.length≤72000):(printP p).length≤500000:=by
 have:=escT_len p.2
 unfold printP
 simp only [List.length_append,List.length_cons,List.length_nil]
 omega
theorem printPs_snoc {ps:List (Bs×Bs)} {j:Nat} {p:Bs×Bs} (h:ps[j]?=some p):(ps.take (j+1)).flatMap printP=(ps.take j).flatMap printP++printP p:=by
 rw [take_snoc' h,List.flatMap_append]
 simp
theorem printPs_len {ps:List (Bs×Bs)} (h: ∀ p ∈ ps,p.1.length≤10∧p.2.length≤72000):(ps.flatMap printP).length≤ps.length * 500000:=by
 induction ps with
 | nil=>simp
 | cons p r ih =>
   rw [List.flatMap_cons,List.length_append,List.length_cons]
   have h1:=printP_len (h p List.mem_cons_self).1 (h p List.mem_cons_self).2
   have h2:=ih (fun q hq=>h q (List.mem_cons_of_mem _ hq))
   omega
theorem printPs_take {ps:List (Bs×Bs)} (h: ∀ p ∈ ps,p.1.length≤10∧p.2.length≤72000) (hl:ps.length≤60) (j:Nat):((ps.take j).flatMap printP).length≤30000000:=by
 have h1:=printPs_len (ps:=ps.take j) (fun p hp=>h p (List.mem_of_mem_take hp))
 rw [List.length_take] at h1
 omega
theorem printT_len {t:TokD} (h:smTk t):(printT t).length≤40000000:=by
 obtain ⟨h1,h2,h3,h4⟩:=h
 have e1:=escT_len t.value
 have e2:=printPs_len h4
 unfold printT
 (repeat' split)<;>(try simp only [List.length_append,List.length_cons,List.length_nil])<;>omega
theorem printL_snoc {l:List TokD} {k:Nat} {t:TokD} (h:l[k]?=some t):printL (l.take (k+1))=printL (l.take k)++printT t:=by
 unfold printL
 rw [take_snoc' h,List.flatMap_append]
 simp
theorem printL_len {l:List TokD} (h: ∀ t ∈ l,smTk t):(printL l).length≤l.length * 40000000:=by
 induction l with
 | nil=>simp [printL]
 | cons t r ih =>
   rw [printL_cons,List.length_append,List.length_cons]
   have h1:=printT_len (h t List.mem_cons_self)
   have h2:=ih (fun q hq=>h q (List.mem_cons_of_mem _ hq))
   omega
theorem printL_bd {l:List TokD} (h:smTks l) (k:Nat):(printL (l.take k)).length≤40000000000:=by
 have h1:=printL_len (l:=l.take k) (fun t ht=>h.2 t (List.mem_of_mem_take ht))
 have:=h.1
 rw [List.length_take] at h1
 omega
theorem printL_pre (l:List TokD) (k:Nat):(printL (l.take k)).length≤(printL l).length:=by
 have e:printL l=printL (l.take k)++printL (l.drop k):=by
  unfold printL
  rw [← List.flatMap_append,List.take_append_drop]
 rw [e,List.length_append]
 omega
theorem pt_no {l:List TokD} (h:tvM l=false):ptM l=none:=by
 unfold ptM
 rw [if_neg (by rw [h];simp)]
theorem pt_big {l:List TokD} {k:Nat} (h:600<(printL (l.take k)).length):ptM l=none:=by
 have:=printL_pre l k
 unfold ptM
 rw [if_neg (by omega)]
theorem pt_big' {l:List TokD} (h:600<(printL l).length):ptM l=none:=by
 unfold ptM
 rw [if_neg (by omega)]
theorem pt_yes {l:List TokD} (h:tvM l=true) (h':(printL l).length≤600):ptM l=some (printL l):=by
 unfold ptM
 rw [if_pos ⟨h,h'⟩]
theorem pt_text {l:List TokD} (h:tvM l=true):textB (printL l)=decide ((printL l).length≤600):=printL_text h
theorem ok_2 (n v:Bs) (ps:List (Bs×Bs)):okTk ⟨2,n,v,ps⟩=(tagN n && ps.all (prN n)):=rfl
theorem ms_none {s:Bs} (h:tokM s=none):msM s=false:=by unfold msM;rw [h]
theorem ms_some {s:Bs} {l:List TokD} (h:tokM s=some l):msM s=(balF [] l && l.all okTk):=by unfold msM;rw [h];rfl
theorem cm_none {s:Bs} (h:tokM s=none):cmM s=none:=by unfold cmM;rw [h];rfl
theorem cm_some {s:Bs} {l:List TokD} (h:tokM s=some l):cmM s=ptM (cleanMk l):=by unfold cmM;rw [h];rfl
theorem wf_tok {s:Bs} {l:List TokD} (h:tokM s=some l):smTks l∧ ∀ t ∈ l,wfT t:=⟨sm_tok h,(tok_wf h).1⟩
end Go.Proofs.Ytnbjogilidfkdaa
