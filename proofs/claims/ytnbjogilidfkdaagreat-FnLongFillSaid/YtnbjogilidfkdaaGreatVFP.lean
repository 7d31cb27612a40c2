/- Parts of templates, as data: their number, depth, validity. No program. -/
import Derived.Test.YtnbjogilidfkdaaGreatVF12
import Derived.Test.YtnbjogilidfkdaaGreatVFM
import Derived.Lib.IndexMore

namespace Go.Proofs.YtnbjogilidfkdaaGreat
set_option maxRecDepth 100000
set_option linter.unusedVariables false
set_option linter.unusedSimpArgs false
open Go.RowKit
mutual
def cntP:PartD→Nat
 | .mk _ _ _ ps os=>cntL ps+cntL os
def cntL:List PartD→Nat
 | []=>0
 | x::xs=>1+cntP x+cntL xs
end
mutual
theorem cntP_le: ∀ x:PartD,cntP x≤wtP x
 | .mk _ _ _ ps os=>by
   have h1:=cntL_le ps
   have h2:=cntL_le os
   simp only [cntP,wtP]
   omega
theorem cntL_le: ∀ xs:List PartD,cntL xs≤wtL xs
 | []=>by simp [cntL]
 | x::xs=>by
   have h1:=cntP_le x
   have h2:=cntL_le xs
   simp only [cntL,wtL]
   omega
end
theorem cntL_append: ∀ xs ys:List PartD,cntL (xs++ys)=cntL xs+cntL ys
 | [],ys=>by simp [cntL]
 | x::r,ys=>by simp only [List.cons_append,cntL,cntL_append r ys];omega
theorem cntL_nil:cntL []=0:=by simp [cntL]
theorem cntL_one (x:PartD):cntL [x]=1+cntP x:=by simp [cntL]
theorem cntP_mk (k:Int) (t n:Bs) (ps os:List PartD):cntP (.mk k t n ps os)=cntL ps+cntL os:=by simp [cntP]
def PartD.kind:PartD→Int
 | .mk k _ _ _ _=>k
/-- Two bytes of a kind, one behind the other. -/
def dbl (c:UInt8):Bs→Bool
 | a::b::r=>(decide (a=c) && decide (b=c)) || dbl c (b::r)
 | _=>false
def brace (b:UInt8):Bool:=hasB [123,125] b
theorem brace_iff (b:UInt8):brace b=true↔b.toNat=123∨b.toNat=125:=by
 simp [brace,hasB]
 omega
def edgeT (t:Bs):Bool:=brace (t.getD 0 0) || brace (t.getD (t.length - 1) 0)
def wordB (n:Bs):Bool:=decide (n=[105,102]) || decide (n=[101,97,99,104]) || decide (n=[101,108,115,101]) || decide (n=[101,110,100])
/-- The text of a PartText. -/
def txtB (t:Bs):Bool:=textB t && !decide (t=[]) && !dbl 123 t && !dbl 125 t && !edgeT t
mutual
/-- A valid part, but for its neighbour; within it, at most d within each other. -/
def gdP:Nat→PartD→Bool
 | d,.mk k t n ps os =>
   if k=1 then txtB t && decide (n=[]) && decide (ps=[]) && decide (os=[])
   else if k=2 then nameB n && !wordB n && decide (t=[]) && decide (ps=[]) && decide (os=[])
   else if k=3∨k=4 then nameB n && decide (t=[]) && !(decide (k=4) && !decide (os=[])) && !decide (d=0) && gdL (d - 1) false ps && gdL (d - 1) false os
   else false
/-- Valid parts; b: a PartText stands before them. -/
def gdL:Nat→Bool→List PartD→Bool
 | _,_,[]=>true
 | d,b,x::xs=>gdP d x && !(b && decide (x.kind=1)) && gdL d (decide (x.kind=1)) xs
end
def partsB (xs:List PartD):Bool:=decide (cntL xs≤30) && gdL 3 false xs
theorem dbl_contains (c:UInt8): ∀ s:Bs,Lib.contains s [c,c]=dbl c s
 | []=>by simp [Lib.contains,Lib.index,dbl]
 | [a]=>by simp [Lib.contains,Lib.index,dbl]
 | a::b::r=>by
   have ih:=dbl_contains c (b::r)
   unfold Lib.contains at *
   have hge:=Lib.index_ge (b::r) [c,c]
   rw [Lib.index,dbl,← ih]
   by_cases h:[c,c].isPrefixOf (a::b::r)=true
   · rw [if_pos h]
     simp only [List.isPrefixOf,Bool.and_eq_true,beq_iff_eq] at h
     simp [h.1.symm,h.2.1.symm]
   · rw [if_neg h]
     have h2:(decide (a=c) && decide (b=c))=false:=by
      simp only [List.isPrefixOf,Bool.and_eq_true,beq_iff_eq] at h
      simp only [Bool.and_eq_false_iff,decide_eq_false_iff_not]
      by_cases e:a=c
      · right;intro e2;exact h ⟨e.symm,e2.symm,trivial⟩
      · exact .inl e
     rw [h2,Bool.false_or]
     split
     · rename_i h3;simp only [beq_iff_eq] at h3;simp [h3]
     · rename_i h3;simp only [beq_iff_eq] at h3;rw [decide_eq_decide];omega
theorem dbl_drop {c:UInt8} {s:Bs} {k:Nat} (h:k+1<s.length):dbl c (s.drop k)=((decide (s.getD k 0=c) && decide (s.getD (k+1) 0=c)) || dbl c (s.drop (k+1))):=by
 rw [drop_getD (show k<s.length by omega),drop_getD (k:=k+1) (by omega)]
 generalize s.getD k 0=x
 generalize s.getD (k+1) 0=y
 rw [dbl]
theorem dbl_end {c:UInt8} {s:Bs} {k:Nat} (h: ¬ k+1<s.length):dbl c (s.drop k)=false:=by
 have hl:(s.drop k).length≤1:=by simp;omega
 match h1:s.drop k with
 | []=>rfl
 | [a]=>rfl
 | a::b::r=>rw [h1] at hl;simp at hl
/-- Whether a PartText stands at the end. -/
def lastT (b:Bool):List PartD→Bool
 | []=>b
 | [x]=>decide (x.kind=1)
 | _::y::r=>lastT b (y::r)
theorem lastT_cons (b:Bool) (x:PartD) (xs:List PartD):lastT b (x::xs)=lastT (decide (x.kind=1)) xs:=by
 induction xs generalizing x b with
 | nil=>rfl
 | cons y r ih=>rw [lastT,ih,ih]
theorem gdL_append (d:Nat): ∀ (xs ys:List PartD) (b:Bool),gdL d b (xs++ys)=(gdL d b xs && gdL d (lastT b xs) ys)
 | [],ys,b=>by simp [gdL,lastT]
 | x::xs,ys,b=>by
   rw [List.cons_append,gdL,gdL,gdL_append d xs ys,lastT_cons]
   simp only [Bool.and_assoc]
theorem gdL_one (d:Nat) (b:Bool) (x:PartD):gdL d b [x]=(gdP d x && !(b && decide (x.kind=1))):=by simp [gdL]
theorem gdL_nil (d:Nat) (b:Bool):gdL d b []=true:=by simp [gdL]
theorem lastT_snoc (b:Bool) (xs:List PartD) (x:PartD):lastT b (xs++[x])=decide (x.kind=1):=by
 induction xs generalizing b with
 | nil=>rfl
 | cons y r ih=>rw [List.cons_append,lastT_cons,ih]
theorem lastT_take {xs:List PartD} {k:Nat} {x:PartD} (h:xs[k]?=some x):lastT false (xs.take (k+1))=decide (x.kind=1):=by
 rw [take_snoc' h,lastT_snoc]
theorem lastT_zero {xs:List PartD}:lastT false (xs.take 0)=false:=rfl
theorem gdL_step {d:Nat} {xs:List PartD} {k:Nat} {x:PartD} (h:xs[k]?=some x) (h0:gdL d false (xs.take k)=true) (h1:gdP d x=true) (h2:(lastT false (xs.take k) && decide (x.kind=1))=false):gdL d false (xs.take (k+1))=true:=by
 rw [take_snoc' h,gdL_append,gdL_one,h0,h1,h2];rfl
theorem gdL_fail {d:Nat} {xs:List PartD} {k:Nat} {x:PartD} (h:xs[k]?=some x) (h1:gdP d x=false∨(lastT false (xs.take k) && decide (x.kind=1))=true):gdL d false xs=false:=by
 have e:xs=xs.take (k+1)++xs.drop (k+1):=(List.take_append_drop _ _).symm
 rw [e,gdL_append,take_snoc' h,gdL_append,gdL_one]
 rcases h1 with h1|h1<;>simp [h1]
theorem gdP_mk (d:Nat) (k:Int) (t n:Bs) (ps os:List PartD):gdP d (.mk k t n ps os) =
 if k=1 then txtB t && decide (n=[]) && decide (ps=[]) && decide (os=[])
 else if k=2 then nameB n && !wordB n && decide (t=[]) && decide (ps=[]) && decide (os=[])
 else if k=3∨k=4 then nameB n && decide (t=[]) && !(decide (k=4) && !decide (os=[])) && !decide (d=0) && gdL (d - 1) false ps && gdL (d - 1) false os
 else false:=by rw [gdP]
theorem kind_mk (k:Int) (t n:Bs) (ps os:List PartD):(PartD.mk k t n ps os).kind=k:=rfl
end Go.Proofs.YtnbjogilidfkdaaGreat

/- States behind parts, faults of parts: as data. No program. -/
namespace Go.Proofs.YtnbjogilidfkdaaGreat
set_option maxRecDepth 100000
set_option linter.unusedVariables false
set_option linter.unusedSimpArgs false
open Go.RowKit
mutual
/-- The state behind a part, not yet asked whether it is bad. -/
def chkP (s:St):PartD→St
 | .mk k t _ ps os=>if k=1 then afterS s t else if k=2 then behindM s else if k=4 then (if chkL s ps=s then s else bad) else (if chkL s ps=chkL s os then chkL s ps else bad)
def chkL (s:St):List PartD→St
 | []=>s
 | x::xs=>if (chkP s x).mode=15 then bad else chkL (chkP s x) xs
end
theorem chkP_mk (s:St) (k:Int) (t n:Bs) (ps os:List PartD):chkP s (.mk k t n ps os)=if k=1 then afterS s t else if k=2 then behindM s else if k=4 then (if chkL s ps=s then s else bad) else (if chkL s ps=chkL s os then chkL s ps else bad):=by rw [chkP]
theorem chkL_nil (s:St):chkL s []=s:=by rw [chkL]
theorem chkL_cons (s:St) (x:PartD) (xs:List PartD):chkL s (x::xs)=if (chkP s x).mode=15 then bad else chkL (chkP s x) xs:=by rw [chkL]
mutual
theorem stV_chkP: ∀ (x:PartD) (s:St),stV s=true→stV (chkP s x)=true
 | .mk k t n ps os,s,h=>by
   rw [chkP_mk]
   split
   · exact stV_afterS s t
   split
   · exact stV_behind s
   split
   · split
     · exact h
     · exact stV_bad
   · split
     · exact stV_chkL ps s h
     · exact stV_bad
theorem stV_chkL: ∀ (xs:List PartD) (s:St),stV s=true→stV (chkL s xs)=true
 | [],s,h=>by rw [chkL_nil];exact h
 | x::xs,s,h=>by
   rw [chkL_cons]
   split
   · exact stV_bad
   · exact stV_chkL xs _ (stV_chkP x s h)
end
theorem chkL_append (xs ys:List PartD): ∀ s:St,s.mode≠15→chkL s (xs++ys)=if (chkL s xs).mode=15 then bad else chkL (chkL s xs) ys:=by
 induction xs with
 | nil=>intro s h;rw [List.nil_append,chkL_nil,if_neg h]
 | cons x xs ih =>
   intro s h
   rw [List.cons_append,chkL_cons,chkL_cons]
   split
   · rfl
   · rename_i hm;exact ih _ hm
theorem mode15 {s:St} (h:stV s=true) (hm:s.mode=15):s=bad:=by
 have h1:=stV_tag0 h (by omega)
 have h2:=stV_attr0 h (by omega)
 have h3:=stV_seen0 h (by omega)
 cases s
 simp only at hm h1 h2 h3
 subst hm h1 h2 h3
 rfl
theorem behindM_bad:behindM bad=bad:=by decide
theorem afterS_bad (t:Bs):afterS bad t=bad:=by unfold afterS;rw [if_pos stV_bad,run_bad]
mutual
theorem chkP_bad: ∀ x:PartD,chkP bad x=bad
 | .mk k t n ps os=>by
   rw [chkP_mk,afterS_bad,behindM_bad,chkL_bad ps,chkL_bad os]
   simp
theorem chkL_bad: ∀ xs:List PartD,chkL bad xs=bad
 | []=>chkL_nil _
 | x::xs=>by rw [chkL_cons,chkP_bad x];rfl
end
/-- Behind the first k+1 parts. -/
theorem chkL_snoc {s:St} {xs:List PartD} {k:Nat} {x:PartD} (h:xs[k]?=some x) (hs:s.mode≠15) (hm:(chkL s (xs.take k)).mode≠15):chkL s (xs.take (k+1))=if (chkP (chkL s (xs.take k)) x).mode=15 then bad else chkP (chkL s (xs.take k)) x:=by
 rw [take_snoc' h,chkL_append _ _ _ hs,if_neg hm,chkL_cons,chkL_nil]
theorem chkL_split (xs:List PartD) (k:Nat) (s:St) (h:stV s=true):chkL (chkL s (xs.take k)) (xs.drop k)=chkL s xs:=by
 by_cases hs:s.mode=15
 · rw [mode15 h hs,chkL_bad,chkL_bad,chkL_bad]
 · have h2:=chkL_append (xs.take k) (xs.drop k) s hs
   rw [List.take_append_drop] at h2
   rw [h2]
   split
   · rename_i hm
     rw [mode15 (stV_chkL _ _ h) hm,chkL_bad]
   · rfl
def safeM (xs:List PartD):Bool:=partsB xs && decide (chkL st0 xs=st0)
def checkM (s:St) (xs:List PartD):St:=if partsB xs=true∧stV s=true then chkL s xs else bad
end Go.Proofs.YtnbjogilidfkdaaGreat
