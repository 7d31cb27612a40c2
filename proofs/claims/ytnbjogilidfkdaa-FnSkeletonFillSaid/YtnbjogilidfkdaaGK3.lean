/- Data; what comes when parts are filled in: as data. No program. -/
import Derived.Test.YtnbjogilidfkdaaGFP
import Derived.Test.YtnbjogilidfkdaaGFE

namespace Go.Proofs.Ytnbjogilidfkdaa
set_option maxRecDepth 100000
set_option linter.unusedVariables false
set_option linter.unusedSimpArgs false
open Go.RowKit
structure FieldD where
 name:Bs
 text:Bs
 holds:Bool
 items:List Bs
 deriving DecidableEq
def strs (l:List Bs):List (List PV):=l.map fun t=>[.str t]
def encF (f:FieldD):List PV:=[.str f.name,.str f.text,.bool f.holds,.seq (strs f.items)]
def encFs (l:List FieldD):List (List PV):=l.map encF
def noF:FieldD:=⟨[],[],false,[]⟩
def findF:List FieldD→Bs→FieldD
 | [],_=>noF
 | f::r,n=>if f.name=n then f else findF r n
def hasF (l:List FieldD) (n:Bs):Bool:=l.any fun f=>decide (f.name=n)
def itemN:Bs:=[105,116,101,109]
def withF (data:List FieldD) (t:Bs):List FieldD:=⟨itemN,t,false,[]⟩::data.filter fun f=>!decide (f.name=itemN)
def valB (s:Bs):Bool:=decide (s.length≤40) && textB s
def fldB (f:FieldD):Bool:=nameB f.name && valB f.text && decide (f.items.length≤5) && f.items.all valB
/-- Fields behind others: each valid, its name a new one. -/
def datL:List FieldD→List FieldD→Bool
 | _,[]=>true
 | pre,f::r=>fldB f && !hasF pre f.name && datL (pre++[f]) r
def dataB (l:List FieldD):Bool:=decide (l.length≤8) && datL [] l
theorem datL_append: ∀ (xs ys pre:List FieldD),datL pre (xs++ys)=(datL pre xs && datL (pre++xs) ys)
 | [],ys,pre=>by simp [datL]
 | x::xs,ys,pre=>by
   rw [List.cons_append,datL,datL,datL_append xs ys,List.append_assoc,List.singleton_append]
   simp only [Bool.and_assoc]
theorem datL_take {l:List FieldD} {k:Nat} {f:FieldD} (h:l[k]?=some f):datL [] (l.take (k+1))=(datL [] (l.take k) && (fldB f && !hasF (l.take k) f.name)):=by
 have e:l.take (k+1)=l.take k++[f]:=by
  obtain ⟨h1,rfl⟩:=List.getElem?_eq_some_iff.1 h
  exact List.take_succ_eq_append_getElem h1
 rw [e,datL_append,datL,datL,List.nil_append,Bool.and_true]
theorem datL_fail {l:List FieldD} {k:Nat} {f:FieldD} (h:l[k]?=some f) (hb:(fldB f && !hasF (l.take k) f.name)=false):datL [] l=false:=by
 have e:l=l.take (k+1)++l.drop (k+1):=(List.take_append_drop _ _).symm
 rw [e,datL_append,datL_take h,hb];simp
/-- Bounds on data: texts are short, lists too. -/
def dBd (l:List FieldD):Prop:= ∀ f ∈ l,f.name.length≤1000∧f.text.length≤40∧f.items.length≤5∧ ∀ t ∈ f.items,t.length≤40
theorem find_mem: ∀ (l:List FieldD) (n:Bs),findF l n ∈ l∨findF l n=noF
 | [],_=> .inr rfl
 | f::r,n=>by
   unfold findF
   split
   · exact .inl (by simp)
   · rcases find_mem r n with h|h
     · exact .inl (by simp [h])
     · exact .inr h
theorem find_bd {l:List FieldD} (h:dBd l) (n:Bs):(findF l n).text.length≤40∧(findF l n).items.length≤5∧ ∀ t ∈ (findF l n).items,t.length≤40:=by
 rcases find_mem l n with hm|hm
 · exact (h _ hm).2
 · rw [hm];exact ⟨by simp [noF],by simp [noF],by simp [noF]⟩
theorem with_bd {l:List FieldD} (h:dBd l) {t:Bs} (ht:t.length≤40):dBd (withF l t):=by
 intro f hf
 unfold withF at hf
 rcases List.mem_cons.1 hf with rfl|hf
 · exact ⟨by simp [itemN],ht,by simp,by simp⟩
 · exact h f (List.mem_filter.1 hf).1
theorem datL_mem: ∀ {l pre:List FieldD},datL pre l=true→ ∀ f ∈ l,fldB f=true
 | [],_,_,f,hf=>by simp at hf
 | x::xs,pre,h,f,hf=>by
   rw [datL] at h
   simp only [Bool.and_eq_true] at h
   rcases List.mem_cons.1 hf with rfl|hf
   · exact h.1.1
   · exact datL_mem h.2 f hf
theorem valB_len {s:Bs} (h:valB s=true):s.length≤40:=by
 unfold valB at h
 simp only [Bool.and_eq_true,decide_eq_true_eq] at h
 exact h.1
theorem dataB_bd {l:List FieldD} (h:dataB l=true):dBd l:=by
 unfold dataB at h
 simp only [Bool.and_eq_true] at h
 intro f hf
 have:=datL_mem h.2 f hf
 unfold fldB at this
 simp only [Bool.and_eq_true,decide_eq_true_eq,List.all_eq_true] at this
 obtain ⟨⟨⟨h1,h2⟩,h3⟩,h4⟩:=this
 exact ⟨by have:=(nameB_len h1).2;omega,valB_len h2,h3,fun t ht=>valB_len (h4 t ht)⟩
inductive Ev where
 | txt (t:Bs)
 | hole (f:FieldD) (s:St)
mutual
def evP (data:List FieldD) (s:St):PartD→List Ev×St
 | .mk k t n ps os =>
   if k=1 then ([.txt t],afterS s t)
   else if k=2 then ([.hole (findF data n) s],behindM s)
   else if k=3 then (if (findF data n).holds=true then evL data s ps else evL data s os)
   else if k=4 then ((findF data n).items.flatMap fun it=>(evL (withF data it) s ps).1,s)
   else ([],s)
def evL (data:List FieldD) (s:St):List PartD→List Ev×St
 | []=>([],s)
 | x::xs=>((evP data s x).1++(evL data (evP data s x).2 xs).1,(evL data (evP data s x).2 xs).2)
end
theorem evP_mk (data:List FieldD) (s:St) (k:Int) (t n:Bs) (ps os:List PartD):evP data s (.mk k t n ps os) =
 if k=1 then ([.txt t],afterS s t)
 else if k=2 then ([.hole (findF data n) s],behindM s)
 else if k=3 then (if (findF data n).holds=true then evL data s ps else evL data s os)
 else if k=4 then ((findF data n).items.flatMap fun it=>(evL (withF data it) s ps).1,s)
 else ([],s):=by rw [evP]
theorem evL_nil (data:List FieldD) (s:St):evL data s []=([],s):=by rw [evL]
theorem evL_cons (data:List FieldD) (s:St) (x:PartD) (xs:List PartD):evL data s (x::xs)=((evP data s x).1++(evL data (evP data s x).2 xs).1,(evL data (evP data s x).2 xs).2):=by rw [evL]
theorem evL_append (data:List FieldD): ∀ (xs ys:List PartD) (s:St),evL data s (xs++ys)=((evL data s xs).1++(evL data (evL data s xs).2 ys).1,(evL data (evL data s xs).2 ys).2)
 | [],ys,s=>by simp [evL_nil]
 | x::xs,ys,s=>by rw [List.cons_append,evL_cons,evL_cons,evL_append data xs ys,List.append_assoc]
theorem evL_snoc {data:List FieldD} {s:St} {xs:List PartD} {k:Nat} {x:PartD} (h:xs[k]?=some x):evL data s (xs.take (k+1))=((evL data s (xs.take k)).1++(evP data (evL data s (xs.take k)).2 x).1,(evP data (evL data s (xs.take k)).2 x).2):=by
 rw [take_snoc' h,evL_append,evL_cons,evL_nil,List.append_nil]
/-- The weight of what comes. -/
def wE:Ev→Nat
 | .txt t=>t.length+1
 | .hole f _=>18 * f.text.length+2
def wEs (l:List Ev):Nat:=(l.map wE).sum
theorem wEs_nil:wEs []=0:=rfl
theorem wEs_cons (e:Ev) (l:List Ev):wEs (e::l)=wE e+wEs l:=by simp [wEs]
theorem wEs_append (a b:List Ev):wEs (a++b)=wEs a+wEs b:=by simp [wEs]
theorem wEs_flat {α:Type} (g:α→List Ev) (m:Nat): ∀ l:List α,(∀ x ∈ l,wEs (g x)≤m)→wEs (l.flatMap g)≤l.length * m
 | [],_=>by simp [wEs_nil]
 | x::l,h=>by
   rw [List.flatMap_cons,wEs_append,List.length_cons,Nat.add_mul,Nat.one_mul]
   have h1:=h x (by simp)
   have h2:=wEs_flat g m l (fun y hy=>h y (by simp [hy]))
   omega
mutual
theorem evP_wt: ∀ (x:PartD) (d:Nat) (data:List FieldD) (s:St),gdP d x=true→dBd data→wEs (evP data s x).1≤5 ^ d * (722 * (wtP x+1))
 | .mk k t n ps os,d,data,s,hg,hd=>by
   have hp:1≤5 ^ d:=Nat.pow_pos (by omega)
   have hf:=find_bd hd n
   have big: ∀ m:Nat,m≤722 * (wtP (.mk k t n ps os)+1)→m≤5 ^ d * (722 * (wtP (.mk k t n ps os)+1)):=fun m h=>Nat.le_trans h (Nat.le_mul_of_pos_left _ hp)
   rw [gdP_mk] at hg
   rw [evP_mk]
   split
   · refine big _ ?_
     rw [wEs_cons,wEs_nil,wE,wtP_mk]
     omega
   rename_i k1
   rw [if_neg k1] at hg
   split
   · refine big _ ?_
     rw [wEs_cons,wEs_nil,wE,wtP_mk]
     omega
   rename_i k2
   rw [if_neg k2] at hg
   by_cases k34:k=3∨k=4
   · rw [if_pos k34] at hg
     simp only [Bool.and_eq_true,Bool.not_eq_true',decide_eq_false_iff_not] at hg
     have hd0:d≠0:=hg.1.1.2
     have e5:5 ^ d=5 * 5 ^ (d - 1):=by rw [← Nat.pow_succ'];congr 1;omega
     have h1:=fun da hda=>evL_wt ps (d - 1) da s false hg.1.2 hda
     have h2:=evL_wt os (d - 1) data s false hg.2 hd
     have w1:5 ^ (d - 1) * (722 * wtL ps)≤5 ^ (d - 1) * (722 * (wtP (.mk k t n ps os)+1)):=Nat.mul_le_mul_left _ (by rw [wtP_mk];omega)
     have w2:5 ^ (d - 1) * (722 * wtL os)≤5 ^ (d - 1) * (722 * (wtP (.mk k t n ps os)+1)):=Nat.mul_le_mul_left _ (by rw [wtP_mk];omega)
     rw [e5,Nat.mul_assoc]
     split
     · split
       · have:=h1 data hd;omega
       · omega
     · split
       · have h3:=wEs_flat (fun it=>(evL (withF data it) s ps).1) (5 ^ (d - 1) * (722 * wtL ps)) (findF data n).items (fun it hit=>h1 _ (with_bd hd (hf.2.2 it hit)))
         have h4:(findF data n).items.length * (5 ^ (d - 1) * (722 * wtL ps))≤5 * (5 ^ (d - 1) * (722 * wtL ps)):=Nat.mul_le_mul_right _ hf.2.1
         dsimp only
         omega
       · simp [wEs_nil]
   · rw [if_neg k34] at hg;cases hg
theorem evL_wt: ∀ (xs:List PartD) (d:Nat) (data:List FieldD) (s:St) (b:Bool),gdL d b xs=true→dBd data→wEs (evL data s xs).1≤5 ^ d * (722 * wtL xs)
 | [],d,data,s,b,_,_=>by rw [evL_nil];simp [wEs_nil]
 | x::xs,d,data,s,b,hg,hd=>by
   rw [gdL] at hg
   simp only [Bool.and_eq_true] at hg
   have h1:=evP_wt x d data s hg.1.1 hd
   have h2:=evL_wt xs d data (evP data s x).2 _ hg.2 hd
   rw [evL_cons,wEs_append]
   have e:wtL (x::xs)=(wtP x+1)+wtL xs:=by rw [show x::xs=[x]++xs from rfl,wtL_append,wtL_one];omega
   rw [e,Nat.mul_add,Nat.mul_add]
   omega
end
mutual
/-- Where the state behind parts is no bad one, it is the one behind what comes. -/
theorem ev_chkP: ∀ (x:PartD) (d:Nat) (data:List FieldD) (s:St),gdP d x=true→(chkP s x).mode≠15→(evP data s x).2=chkP s x
 | .mk k t n ps os,d,data,s,hg,hm=>by
   rw [gdP_mk] at hg
   rw [chkP_mk] at hm ⊢
   rw [evP_mk]
   by_cases k1:k=1
   · rw [if_pos k1,if_pos k1]
   rw [if_neg k1] at hg hm
   rw [if_neg k1,if_neg k1]
   by_cases k2:k=2
   · rw [if_pos k2,if_pos k2]
   rw [if_neg k2] at hg hm
   rw [if_neg k2,if_neg k2]
   by_cases k34:k=3∨k=4
   · rw [if_pos k34] at hg
     simp only [Bool.and_eq_true] at hg
     by_cases k4:k=4
     · rw [if_pos k4] at hm ⊢
       rw [if_neg (show ¬ k=3 by omega),if_pos k4]
       by_cases e:chkL s ps=s
       · rw [if_pos e]
       · rw [if_neg e] at hm;exact absurd rfl hm
     · rw [if_neg k4] at hm ⊢
       rw [if_pos (show k=3 by omega)]
       by_cases e:chkL s ps=chkL s os
       · rw [if_pos e] at hm ⊢
         split
         · exact ev_chkL ps (d - 1) data s false hg.1.2 hm
         · rw [e] at hm ⊢;exact ev_chkL os (d - 1) data s false hg.2 hm
       · rw [if_neg e] at hm;exact absurd rfl hm
   · rw [if_neg k34] at hg;cases hg
theorem ev_chkL: ∀ (xs:List PartD) (d:Nat) (data:List FieldD) (s:St) (b:Bool),gdL d b xs=true→(chkL s xs).mode≠15→(evL data s xs).2=chkL s xs
 | [],d,data,s,b,_,_=>by rw [evL_nil,chkL_nil]
 | x::xs,d,data,s,b,hg,hm=>by
   rw [gdL] at hg
   simp only [Bool.and_eq_true] at hg
   rw [chkL_cons] at hm ⊢
   rw [evL_cons]
   by_cases e:(chkP s x).mode=15
   · rw [if_pos e] at hm;exact absurd rfl hm
   · rw [if_neg e] at hm ⊢
     have:=ev_chkP x d data s hg.1.1 e
     dsimp only
     rw [this]
     exact ev_chkL xs d data _ _ hg.2 hm
end
def outS:Ev→Bs
 | .txt t=>t
 | .hole f s=>escFor (placeM s) f.text
def cat (g:Ev→Bs) (l:List Ev):Bs:=l.flatMap g
theorem cat_cons (g:Ev→Bs) (e:Ev) (l:List Ev):cat g (e::l)=g e++cat g l:=by simp [cat]
theorem cat_append (g:Ev→Bs) (a b:List Ev):cat g (a++b)=cat g a++cat g b:=by simp [cat]
theorem cat_len {g:Ev→Bs} (h: ∀ e,(g e).length≤wE e): ∀ l,(cat g l).length≤wEs l
 | []=>by simp [cat]
 | e::l=>by
   rw [cat_cons,wEs_cons,List.length_append]
   have h1:=h e
   have h2:=cat_len h l
   omega
theorem outS_len (e:Ev):(outS e).length≤wE e:=by
 cases e with
 | txt t=>simp only [outS,wE];omega
 | hole f s=>have:=escFor_len (placeM s) f.text;simp only [outS,wE];omega
def fillM (xs:List PartD) (data:List FieldD):Option Bs:=if safeM xs=true∧dataB data=true then some (cat outS (evL data st0 xs).1) else none
end Go.Proofs.Ytnbjogilidfkdaa

/- Data: places of fields. Plain. -/
namespace Go.Proofs.Ytnbjogilidfkdaa
set_option maxRecDepth 100000
set_option linter.unusedVariables false
set_option linter.unusedSimpArgs false
open Go.RowKit
theorem encFs_get (l:List FieldD) (k:Nat):(encFs l)[k]?=(l[k]?).map encF:=by unfold encFs;rw [List.getElem?_map]
theorem strK_get (l:List Bs) (k:Nat):(strs l)[k]?=(l[k]?).map fun t=>[.str t]:=by unfold strs;rw [List.getElem?_map]
theorem encFs_length (l:List FieldD):(encFs l).length=l.length:=by unfold encFs;simp
theorem strs_length (l:List Bs):(strs l).length=l.length:=by unfold strs;simp
theorem encFs_all (l:List FieldD):(∀ e ∈ encFs l,e.length=4)=True:=eq_true (by
 intro e he;unfold encFs at he
 obtain ⟨f,_,rfl⟩:=List.mem_map.1 he;rfl)
theorem strs_all (l:List Bs):(∀ e ∈ strs l,e.length=1)=True:=eq_true (by
 intro e he;unfold strs at he
 obtain ⟨f,_,rfl⟩:=List.mem_map.1 he;rfl)
theorem encF_mk (n t:Bs) (h:Bool) (i:List Bs):encF ⟨n,t,h,i⟩=[.str n,.str t,.bool h,.seq (strs i)]:=rfl
theorem encFs_append (a b:List FieldD):encFs (a++b)=encFs a++encFs b:=by unfold encFs;rw [List.map_append]
theorem encFs_nil:encFs []=[]:=rfl
theorem encFs_one (f:FieldD):encFs [f]=[encF f]:=rfl
theorem strK_inj {a b:List Bs} (h:strs a=strs b):a=b:=by
 induction a generalizing b with
 | nil=>cases b with
   | nil=>rfl
   | cons y ys=>simp [strs] at h
 | cons x xs ih=>cases b with
   | nil=>simp [strs] at h
   | cons y ys =>
     unfold strs at h
     rw [List.map_cons,List.map_cons] at h
     simp only [List.cons.injEq,PV.str.injEq,and_true] at h
     rw [h.1,ih h.2]
theorem encF_inj {f g:FieldD} (h:encF f=encF g):f=g:=by
 obtain ⟨n,t,b,i⟩:=f
 obtain ⟨n',t',b',i'⟩:=g
 rw [encF_mk,encF_mk] at h
 simp only [List.cons.injEq,PV.str.injEq,PV.bool.injEq,PV.seq.injEq,and_true] at h
 obtain ⟨rfl,rfl,rfl,h⟩:=h
 rw [strK_inj h]
theorem encFs_inj {a b:List FieldD} (h:encFs a=encFs b):a=b:=by
 induction a generalizing b with
 | nil=>cases b with
   | nil=>rfl
   | cons y ys=>simp [encFs] at h
 | cons x xs ih=>cases b with
   | nil=>simp [encFs] at h
   | cons y ys =>
     unfold encFs at h
     rw [List.map_cons,List.map_cons,List.cons.injEq] at h
     rw [encF_inj h.1,ih h.2]
theorem encFs_iff {a b:List FieldD}:encFs a=encFs b↔a=b:=⟨encFs_inj,fun h=>h ▸ rfl⟩
theorem strs_iff {a b:List Bs}:strs a=strs b↔a=b:=⟨strK_inj,fun h=>h ▸ rfl⟩
/-- Lengths that are numbers. -/
def okF (l:List FieldD):Prop:=l.length≤9223372036854775807∧ ∀ f ∈ l,f.name.length≤9223372036854775807∧f.text.length≤9223372036854775807∧f.items.length≤9223372036854775807∧ ∀ t ∈ f.items,t.length≤9223372036854775807
theorem okF_get {l:List FieldD} (h:okF l) {k:Nat} {f:FieldD} (hx:l[k]?=some f):f.name.length≤9223372036854775807∧f.text.length≤9223372036854775807∧f.items.length≤9223372036854775807∧ ∀ t ∈ f.items,t.length≤9223372036854775807:=h.2 f (List.mem_of_getElem? hx)
theorem drop_at {α:Type} {l:List α} {k:Nat} {f:α} (hx:l[k]?=some f):l.drop k=f::l.drop (k+1):=by
 obtain ⟨h1,rfl⟩:=List.getElem?_eq_some_iff.1 hx
 exact List.drop_eq_getElem_cons h1
theorem hasF_take {l:List FieldD} {k:Nat} {f:FieldD} (hx:l[k]?=some f) (n:Bs):hasF (l.take (k+1)) n=(hasF (l.take k) n || decide (f.name=n)):=by
 rw [take_snoc' hx];unfold hasF;rw [List.any_append];simp
theorem hasF_some {l:List FieldD} {k j:Nat} {f:FieldD} (hx:l[j]?=some f) (hj:j<k):hasF (l.take k) f.name=true:=by
 unfold hasF
 rw [List.any_eq_true]
 refine ⟨f,?_,by simp⟩
 obtain ⟨h1,rfl⟩:=List.getElem?_eq_some_iff.1 hx
 rw [List.mem_take_iff_getElem];exact ⟨j,by omega,rfl⟩
theorem with_take {l:List FieldD} {k:Nat} {f:FieldD} (hx:l[k]?=some f) (t:Bs):withF (l.take (k+1)) t=if f.name=itemN then withF (l.take k) t else withF (l.take k) t++[f]:=by
 unfold withF
 rw [take_snoc' hx,List.filter_append]
 split
 · rename_i h;simp [h]
 · rename_i h;simp [h]
theorem with_len (l:List FieldD) (t:Bs):(withF l t).length≤l.length+1:=by
 unfold withF
 have:=List.length_filter_le (fun f:FieldD=>!decide (f.name=itemN)) l
 simp only [List.length_cons];omega
theorem items_all {l:List Bs} {k:Nat} {t:Bs} (hx:l[k]?=some t):(l.take (k+1)).all valB=((l.take k).all valB && valB t):=by
 rw [take_snoc' hx,List.all_append];simp
theorem items_bad {l:List Bs} {k:Nat} {t:Bs} (hx:l[k]?=some t) (h:valB t=false):l.all valB=false:=by
 rw [List.all_eq_false]
 exact ⟨t,List.mem_of_getElem? hx,by rw [h];decide⟩
end Go.Proofs.Ytnbjogilidfkdaa

/- What is filled in: the state behind it; its parts; the holes' texts in it. Plain. -/
namespace Go.Proofs.Ytnbjogilidfkdaa
set_option maxRecDepth 100000
set_option linter.unusedVariables false
set_option linter.unusedSimpArgs false
open Go.RowKit
/-- The same state, but for what was seen. -/
def sim (s r:St):Prop:=stV s=true∧stV r=true∧r.mode=s.mode∧r.tag=s.tag∧r.attr=s.attr∧(¬ (s.mode=6∨s.mode=7)→r.seen=s.seen)
theorem sim_refl {s:St} (h:stV s=true):sim s s:=⟨h,h,rfl,rfl,rfl,fun _=>rfl⟩
theorem sim_eq {s r:St} (h:sim s r) (hm: ¬ (s.mode=6∨s.mode=7)):r=s:=by
 obtain ⟨_,_,h1,h2,h3,h4'⟩:=h
 have h4:=h4' hm
 clear h4'
 cases s;cases r
 simp only at h1 h2 h3 h4
 subst h1 h2 h3 h4
 rfl
theorem step_sim {s r:St} (h:sim s r) (b:UInt8):step r b=step s b:=by
 by_cases hm:s.mode=6∨s.mode=7
 · obtain ⟨hs,hr,h1,h2,h3,_⟩:=h
   rw [step_val hs,step_val hr]
   rcases hm with m|m
   · rw [stepV_6 m,stepV_6 (h1.trans m),h2,h3]
   · rw [stepV_7 m,stepV_7 (h1.trans m),h2,h3]
 · rw [sim_eq h hm]
theorem run0: ∀ t:Bs,t.all noSp=true→run st0 t=st0
 | [],_=>rfl
 | b::t,h=>by
   simp only [List.all_cons,Bool.and_eq_true] at h
   have hb:=noSp_iff.1 h.1
   have e:step st0 b=st0:=by rw [step_val stV_st0,stepV_0 rfl,if_neg hb.1]
   rw [run_cons,e]
   exact run0 t h.2
theorem run67 {s:St} (h:stV s=true) (hm:s.mode=6∨s.mode=7): ∀ (t:Bs) (x:Bool),t.all noSp=true→ ∃ y,run ⟨s.mode,s.tag,s.attr,x⟩ t=⟨s.mode,s.tag,s.attr,y⟩
 | [],x,_=>⟨x,rfl⟩
 | b::t,x,hq=>by
   simp only [List.all_cons,Bool.and_eq_true] at hq
   have hb:=noSp_iff.1 hq.1
   have e:step ⟨s.mode,s.tag,s.attr,x⟩ b=⟨s.mode,s.tag,s.attr,true⟩:=by
    rw [step_val (stV_seen67 h hm x)]
    rcases hm with e|e
    · rw [stepV_6 (show (⟨s.mode,s.tag,s.attr,x⟩:St).mode=6 from e),if_neg hb.2.2.1,e]
    · rw [stepV_7 (show (⟨s.mode,s.tag,s.attr,x⟩:St).mode=7 from e),if_neg hb.2.2.2,e]
   rw [run_cons,e]
   exact run67 h hm t true hq.2
theorem run12_one (b:UInt8):run s12 (scr1 b)=s12:=by
 unfold scr1
 split
 · have hb:=byte_split b
   have h1:=hexL_noSp _ hb.1
   have h2:=hexL_noSp _ hb.2
   unfold code4
   have e1:step s12 92=s13:=by rw [step12 (by decide) (by decide)];rfl
   have e2:step s13 120=s12:=step13 (by decide)
   have e3:step s12 (hexL.getD (b.toNat / 16) 0)=s12:=by rw [step12 h1.1 h1.2.1,if_neg h1.2.2]
   have e4:step s12 (hexL.getD (b.toNat % 16) 0)=s12:=by rw [step12 h2.1 h2.2.1,if_neg h2.2.2]
   rw [run_cons,e1,run_cons,e2,run_cons,e3,run_cons,e4];rfl
 · rename_i h
   have hs:spec4 b=false:=by simpa using h
   have h60: ∀ c:UInt8,spec4 c=false→c.toNat≠60∧c.toNat≠34∧c.toNat≠92:=all_bytes (by decide)
   obtain ⟨h1,h2,h3⟩:=h60 b hs
   rw [run_cons,step12 h1 h2,if_neg h3];rfl
theorem run12: ∀ t:Bs,run s12 (scrS t)=s12
 | []=>rfl
 | b::t=>by rw [scrS_cons,run_append,run12_one,run12 t]
theorem place_mode {s:St} (h:placeM s≠0):s.mode=0∧placeM s=1∨s.mode=12∧placeM s=5∨(s.mode=6∨s.mode=7)∧2≤placeM s∧placeM s≤4:=by
 have hv:=placeM_stV h
 unfold placeM at h ⊢
 rw [if_neg (by rw [hv];decide)] at h ⊢
 by_cases h0:s.mode=0
 · rw [if_pos h0];exact .inl ⟨h0,rfl⟩
 rw [if_neg h0] at h ⊢
 by_cases h1:s.mode=12
 · rw [if_pos h1];exact .inr (.inl ⟨h1,rfl⟩)
 rw [if_neg h1] at h ⊢
 by_cases h2:s.mode=6∨s.mode=7
 · rw [if_pos h2] at h ⊢
   refine .inr (.inr ⟨h2,?_⟩)
   split at h
   · exact absurd rfl h
   · rename_i h3
     (repeat' split)<;>first|omega|contradiction
 · rw [if_neg h2] at h;exact absurd rfl h
/-- A hole is filled in. -/
theorem hole_sim {s r:St} (h:sim s r) (hp:placeM s≠0) (t:Bs):sim (behindM s) (run r (escFor (placeM s) t)):=by
 have hv:=h.1
 have hbv:=stV_behind s
 have hesc:=escFor_noSp (placeM s) t
 have hb:behindM s=if s.mode=6∨s.mode=7 then ⟨s.mode,s.tag,s.attr,true⟩ else s:=by unfold behindM;rw [if_neg hp]
 rcases place_mode hp with ⟨m,p⟩|⟨m,p⟩|⟨m,_⟩
 · have e:=sim_eq h (by omega)
   rw [hb,if_neg (by omega),e,st_mode0 hv m,run0 _ (by rw [st_mode0 hv m] at hesc;exact hesc)]
   exact sim_refl stV_st0
 · have e:=sim_eq h (by omega)
   have e12:s=s12:=st_mode12 hv m
   rw [hb,if_neg (by omega),e,p,e12]
   have:escFor 5 t=scrS t:=rfl
   rw [this,run12]
   exact sim_refl (by decide)
 · obtain ⟨_,hr,h1,h2,h3,_⟩:=h
   have er:r=⟨s.mode,s.tag,s.attr,r.seen⟩:=by cases r;simp only at h1 h2 h3;subst h1 h2 h3;rfl
   obtain ⟨y,hy⟩:=run67 hv m (escFor (placeM s) t) r.seen hesc
   rw [← er] at hy
   rw [hb,if_pos m] at hbv ⊢
   rw [hy]
   exact ⟨hbv,stV_seen67 hv m y,rfl,rfl,rfl,fun hq=>absurd m hq⟩
theorem safe_parts {xs:List PartD} (h:safeM xs=true):partsB xs=true∧gdL 3 false xs=true∧chkL st0 xs=st0∧(chkL st0 xs).mode≠15:=by
 unfold safeM at h
 simp only [Bool.and_eq_true,decide_eq_true_eq] at h
 have h2:=h.1
 unfold partsB at h2
 simp only [Bool.and_eq_true] at h2
 exact ⟨h.1,h2.2,h.2,by rw [h.2];decide⟩
end Go.Proofs.Ytnbjogilidfkdaa

/- What comes when parts are filled in, by steps; bounds. Plain. -/
namespace Go.Proofs.Ytnbjogilidfkdaa
set_option maxRecDepth 100000
set_option linter.unusedVariables false
set_option linter.unusedSimpArgs false
open Go.RowKit
mutual
theorem stV_ev9P (data:List FieldD): ∀ (x:PartD) (s:St),stV s=true→stV (evP data s x).2=true
 | .mk k t n ps os,s,h=>by
   have h1:=stV_ev9L data ps s h
   have h2:=stV_ev9L data os s h
   rw [evP_mk]
   split
   · exact stV_afterS s t
   split
   · exact stV_behind s
   split
   · split
     · exact h1
     · exact h2
   split
   · exact h
   · exact h
theorem stV_ev9L (data:List FieldD): ∀ (xs:List PartD) (s:St),stV s=true→stV (evL data s xs).2=true
 | [],s,h=>by rw [evL_nil];exact h
 | x::xs,s,h=>by rw [evL_cons];exact stV_ev9L data xs _ (stV_ev9P data x s h)
end
theorem ev_split {data:List FieldD} {s:St} {xs:List PartD} {k:Nat} {x:PartD} (h:xs[k]?=some x):wEs (evL data s (xs.take k)).1+wEs (evP data (evL data s (xs.take k)).2 x).1≤wEs (evL data s xs).1:=by
 have e:evL data s xs=evL data s (xs.take (k+1)++xs.drop (k+1)):=by rw [List.take_append_drop]
 rw [e,evL_append,evL_snoc h]
 simp only [wEs_append]
 omega
/-- What comes of some items. -/
def evI (data:List FieldD) (s:St) (ps:List PartD) (its:List Bs):List Ev:=its.flatMap fun it=>(evL (withF data it) s ps).1
theorem evI_nil (data:List FieldD) (s:St) (ps:List PartD):evI data s ps []=[]:=rfl
theorem evI_snoc {data:List FieldD} {s:St} {ps:List PartD} {its:List Bs} {j:Nat} {t:Bs} (h:its[j]?=some t):evI data s ps (its.take (j+1))=evI data s ps (its.take j)++(evL (withF data t) s ps).1:=by
 unfold evI
 rw [take_snoc' h,List.flatMap_append];simp
theorem evI_split {data:List FieldD} {s:St} {ps:List PartD} {its:List Bs} {j:Nat} {t:Bs} (h:its[j]?=some t):wEs (evI data s ps (its.take j))+wEs (evL (withF data t) s ps).1≤wEs (evI data s ps its):=by
 have e:evI data s ps its=evI data s ps (its.take (j+1)++its.drop (j+1)):=by rw [List.take_append_drop]
 have e2:evI data s ps (its.take (j+1)++its.drop (j+1))=evI data s ps (its.take (j+1))++evI data s ps (its.drop (j+1)):=by unfold evI;rw [List.flatMap_append]
 rw [e,e2,evI_snoc h]
 simp only [wEs_append]
 omega
section
variable {data:List FieldD} {s:St} {k:Int} {t n:Bs} {ps os:List PartD}
theorem ev1 (h:k=1):evP data s (.mk k t n ps os)=([.txt t],afterS s t):=by rw [evP_mk,if_pos h]
theorem ev2 (h:k=2):evP data s (.mk k t n ps os)=([.hole (findF data n) s],behindM s):=by rw [evP_mk,if_neg (by omega),if_pos h]
theorem ev3 (h:k=3) (hh:(findF data n).holds=true):evP data s (.mk k t n ps os)=evL data s ps:=by rw [evP_mk,if_neg (by omega),if_neg (by omega),if_pos h,if_pos hh]
theorem ev3o (h:k=3) (hh:(findF data n).holds=false):evP data s (.mk k t n ps os)=evL data s os:=by rw [evP_mk,if_neg (by omega),if_neg (by omega),if_pos h,if_neg (by rw [hh];decide)]
theorem ev4 (h:k=4):evP data s (.mk k t n ps os)=(evI data s ps (findF data n).items,s):=by rw [evP_mk,if_neg (by omega),if_neg (by omega),if_neg (by omega),if_pos h];rfl
theorem ev0 (h1: ¬ k=1) (h2: ¬ k=2) (h3: ¬ k=3) (h4: ¬ k=4):evP data s (.mk k t n ps os)=([],s):=by rw [evP_mk,if_neg h1,if_neg h2,if_neg h3,if_neg h4]
end
/-- Deeper parts: the depth goes down. -/
theorem gd_deep {d:Nat} {k:Int} {t n:Bs} {ps os:List PartD} (h:gdP d (.mk k t n ps os)=true) (hk:k=3∨k=4):1≤d∧gdL (d - 1) false ps=true∧gdL (d - 1) false os=true:=by
 rw [gdP_mk,if_neg (by omega),if_neg (by omega),if_pos hk] at h
 simp only [Bool.and_eq_true,Bool.not_eq_true',decide_eq_false_iff_not] at h
 exact ⟨by omega,h.1.2,h.2⟩
theorem wE_txt (t:Bs):wE (.txt t)=t.length+1:=rfl
theorem wE_hole (f:FieldD) (s:St):wE (.hole f s)=18 * f.text.length+2:=rfl
theorem wEs_one (e:Ev):wEs [e]=wE e:=by rw [wEs_cons,wEs_nil];rfl
def plW (data:List FieldD) (xs:List PartD):Nat:=wEs (evL data st0 xs).1
section
variable {data:List FieldD} {k:Int} {t n:Bs} {ps os:List PartD}
end
end Go.Proofs.Ytnbjogilidfkdaa

/- Tokens of markup: what is read, as the program and as the reference do. Plain. -/
namespace Go.Proofs.Ytnbjogilidfkdaa
set_option maxRecDepth 100000
set_option linter.unusedVariables false
set_option linter.unusedSimpArgs false
open Go.RowKit
structure TokD where
 kind:Int
 name:Bs
 value:Bs
 pairs:List (Bs×Bs)
 deriving DecidableEq
def encPr (p:Bs×Bs):List PV:=[.str p.1,.str p.2]
def encPrs (l:List (Bs×Bs)):List (List PV):=l.map encPr
def encTk (t:TokD):List PV:=[.int .i64 t.kind,.str t.name,.str t.value,.seq (encPrs t.pairs)]
def encTks (l:List TokD):List (List PV):=l.map encTk
def tkText (v:Bs):TokD:=⟨1,[],v,[]⟩
def tkOpen (n:Bs) (ps:List (Bs×Bs)):TokD:=⟨2,n,[],ps⟩
def tkEnd (n:Bs):TokD:=⟨3,n,[],[]⟩
def tkCom (v:Bs):TokD:=⟨4,[],v,[]⟩
def tkScr (v:Bs):TokD:=⟨5,[],v,[]⟩
def unPs (ps:List (Bs×Bs)):List (Bs×Bs):=ps.map fun p=>(p.1,unT p.2)
/-- The last attribute, turned. -/
def lastP (g:Bs×Bs→Bs×Bs):List (Bs×Bs)→List (Bs×Bs)
 | []=>[]
 | [p]=>[g p]
 | p::q::r=>p::lastP g (q::r)
theorem lastP_snoc (g:Bs×Bs→Bs×Bs): ∀ (l:List (Bs×Bs)) (p:Bs×Bs),lastP g (l++[p])=l++[g p]
 | [],p=>rfl
 | [q],p=>by simp [lastP]
 | q::r::l,p=>by
   have:=lastP_snoc g (r::l) p
   simpa [lastP] using this
structure TkI where
 s:St
 raw:Bs
 ps:List (Bs×Bs)
 out:List TokD
def tkI0:TkI:=⟨st0,[],[],[]⟩
/-- The texts: behind a byte, where the state behind it is n. -/
def rawI (x:TkI) (n:St) (b:UInt8):Bs×List TokD :=
 if x.s.mode=0∧n.mode=0 then (x.raw++[b],x.out)
 else if x.s.mode=0 then ([],if x.raw=[] then x.out else x.out++[tkText (unT x.raw)])
 else if x.s.mode=1∧n.mode=2 then (x.raw,x.out)
 else if x.s.mode=9∧n.mode=0 then (x.raw,x.out++[tkEnd x.s.tag])
 else if x.s.mode=10∧n.mode=0 then ([],x.out++[tkCom x.raw])
 else if x.s.mode=10 then (x.raw++[b],x.out)
 else if x.s.mode=14∧n.mode=9 then ([],if 1<x.raw.length then x.out++[tkScr x.raw.dropLast] else x.out)
 else if 11≤x.s.mode then (x.raw++[b],x.out)
 else (x.raw,x.out)
def prsI (x:TkI) (n:St) (b:UInt8):List (Bs×Bs) :=
 if x.s.mode=1∧n.mode=2 then []
 else if 2≤x.s.mode∧x.s.mode≤8 then
  (if n.mode=4∧x.s.mode=3 then x.ps++[(n.attr,[])]
   else if n.mode=4 then lastP (fun p=>(n.attr,p.2)) x.ps
   else if n.mode=8∨x.s.mode=n.mode∧(n.mode=6∨n.mode=7) then lastP (fun p=>(p.1,p.2++[b])) x.ps
   else if n.mode=0∨n.mode=11 then []
   else x.ps)
 else x.ps
def tkStep (x:TkI) (b:UInt8):Option TkI :=
 if (step x.s b).mode=15 then none
 else if (2≤x.s.mode∧x.s.mode≤8)∧((step x.s b).mode=0∨(step x.s b).mode=11) then
  (if 60<x.ps.length then none else some ⟨step x.s b,x.raw,[],x.out++[tkOpen x.s.tag (unPs x.ps)]⟩)
 else some ⟨step x.s b,(rawI x (step x.s b) b).1,prsI x (step x.s b) b,(rawI x (step x.s b) b).2⟩
def tkFold:TkI→Bs→Option TkI
 | x,[]=>some x
 | x,b::t=>(tkStep x b).bind fun y=>tkFold y t
def tkFin (x:TkI):Option (List TokD) :=
 if x.s.mode≠0 then none
 else if (if x.raw=[] then x.out else x.out++[tkText (unT x.raw)]).length > 60 then none
 else some (if x.raw=[] then x.out else x.out++[tkText (unT x.raw)])
def tokM (t:Bs):Option (List TokD):=if textB t=true then (tkFold tkI0 t).bind tkFin else none
theorem tkFold_cons (x:TkI) (b:UInt8) (t:Bs):tkFold x (b::t)=(tkStep x b).bind fun y=>tkFold y t:=rfl
theorem tkFold_append: ∀ (t u:Bs) (x:TkI),tkFold x (t++u)=(tkFold x t).bind fun y=>tkFold y u
 | [],u,x=>rfl
 | b::t,u,x=>by
   rw [List.cons_append,tkFold_cons,tkFold_cons]
   cases tkStep x b with
   | none=>rfl
   | some y=>exact tkFold_append t u y
/-- The state, the text and the attributes fit: where an attribute is read there is one. -/
structure TkOk (x:TkI):Prop where
 v:stV x.s=true
 raw:x.raw≠[]→x.s.mode=0∨10≤x.s.mode
 ps:4≤x.s.mode∧x.s.mode≤8→ ∃ l v,x.ps=l++[(x.s.attr,v)]
 z: ¬ (2≤x.s.mode∧x.s.mode≤8)→x.ps=[]
 less:x.s.mode=14→x.raw≠[]
theorem tkI0_ok:TkOk tkI0:=⟨stV_st0,fun h=>absurd rfl h,fun h=>by simp [tkI0,st0] at h,fun _=>rfl,fun h=>by simp [tkI0,st0] at h⟩
/-- Where a byte leads from a mode. -/
theorem step_modes {s:St} (h:stV s=true) (b:UInt8):(step s b).mode=15 ∨
 (s.mode=0∧((step s b).mode=0∨(step s b).mode=1)) ∨
 (s.mode=1∧((step s b).mode=2∨(step s b).mode=9∨(step s b).mode=10)) ∨
 (s.mode=2∧((step s b).mode=2∨(step s b).mode=3∨(step s b).mode=0∨(step s b).mode=11)) ∨
 (s.mode=3∧((step s b).mode=3∨(step s b).mode=4∨(step s b).mode=0∨(step s b).mode=11)) ∨
 (s.mode=4∧((step s b).mode=3∨(step s b).mode=4∨(step s b).mode=5∧(step s b).attr=s.attr∨(step s b).mode=0∨(step s b).mode=11)) ∨
 (s.mode=5∧((step s b).mode=6∨(step s b).mode=7∨(step s b).mode=8)∧(step s b).attr=s.attr) ∨
 (s.mode=6∧((step s b).mode=3∨(step s b).mode=6∧(step s b).attr=s.attr)) ∨
 (s.mode=7∧((step s b).mode=3∨(step s b).mode=7∧(step s b).attr=s.attr)) ∨
 (s.mode=8∧((step s b).mode=3∨(step s b).mode=8∧(step s b).attr=s.attr∨(step s b).mode=0∨(step s b).mode=11)) ∨
 (s.mode=9∧((step s b).mode=0∨(step s b).mode=9)) ∨
 (s.mode=10∧((step s b).mode=0∨(step s b).mode=10)) ∨
 (s.mode=11∧((step s b).mode=11∨(step s b).mode=12∨(step s b).mode=14)) ∨
 (s.mode=12∧((step s b).mode=11∨(step s b).mode=12∨(step s b).mode=13)) ∨
 (s.mode=13∧(step s b).mode=12) ∨
 (s.mode=14∧((step s b).mode=9∨(step s b).mode=11∨(step s b).mode=12∨(step s b).mode=14)):=by
 rw [step_val h]
 have tagm:s.mode=2∨s.mode=3∨s.mode=4∨s.mode=8→stepV s b=stepTagM s b:=fun m=>stepV_t m
 rcases modes h with m|m|m|m|m|m|m|m|m|m|m|m|m
 · rw [stepV_0 m];split<;>simp [m,st0]
 · rw [stepV_1 m];(repeat' split)<;>simp [m,bad]
 · rw [stepV_t m]
   unfold stepTagM longT longA
   rcases m with m|m|m|m<;>(repeat' split)<;>simp_all [st0,bad]
 · rw [stepV_5 m];(repeat' split)<;>simp [m,bad]
 · rw [stepV_6 m];(repeat' split)<;>simp [m]
 · rw [stepV_7 m];(repeat' split)<;>simp [m]
 · rw [stepV_9 m]
   unfold longT
   (repeat' split)<;>simp [m,bad,st0]
 · rw [stepV_10 m];(repeat' split)<;>simp [m,st0]
 · rw [stepV_11 m];(repeat' split)<;>simp [m]
 · rw [stepV_12 m];(repeat' split)<;>simp [m,bad]
 · rw [stepV_13 m];(repeat' split)<;>simp [m,bad]
 · rw [stepV_14 m];(repeat' split)<;>simp [m]
 · rw [stepV_15 m];simp [bad]
set_option maxHeartbeats 4000000 in
theorem tk_ok {x y:TkI} {b:UInt8} (h:TkOk x) (e:tkStep x b=some y):TkOk y:=by
 obtain ⟨hv,hr,hp,hz,hl⟩:=h
 have hv':=stV_step x.s b
 have hm:=step_modes hv b
 unfold tkStep at e
 generalize step x.s b=n at *
 obtain ⟨xs,raw,ps,out⟩:=x
 dsimp only at *
 have hraw: ¬ (xs.mode=0∨10≤xs.mode)→raw=[]:=fun h9=>Classical.byContradiction fun h8=>h9 (hr h8)
 split at e
 · cases e
 rename_i n15
 have hm:=hm.resolve_left n15
 split at e
 · rename_i hc
   split at e
   · cases e
   · cases e
     have:=hraw (by omega)
     subst this
     exact ⟨hv',fun h9=>absurd rfl h9,fun h9=>by dsimp only at *;omega,fun _=>rfl,fun h9=>by dsimp only at *;omega⟩
 · rename_i hc
   cases e
   by_cases h48:4≤xs.mode∧xs.mode≤8
   · obtain ⟨l,v,rfl⟩:=hp h48
     have:=hraw (by omega)
     subst this
     rcases hm with ⟨m,_⟩|⟨m,_⟩|⟨m,_⟩|⟨m,_⟩|⟨m,m'|m'|⟨m',ha⟩|m'|m'⟩|⟨m,m'|m'|m',ha⟩|⟨m,m'|⟨m',ha⟩⟩|⟨m,m'|⟨m',ha⟩⟩|⟨m,m'|⟨m',ha⟩|m'|m'⟩|⟨m,_⟩|⟨m,_⟩|⟨m,_⟩|⟨m,_⟩|⟨m,_⟩|⟨m,_⟩
     all_goals first
      | (exfalso;omega)
      | (refine ⟨hv',?_,?_,?_,?_⟩<;>simp [rawI,prsI,lastP_snoc, *];done)
      | (refine ⟨hv',?_,?_,?_,?_⟩<;>simp [rawI,prsI,m,m',lastP_snoc, *]<;>exact ⟨_,_,rfl⟩)
   · by_cases h23:xs.mode=2∨xs.mode=3
     · have:=hraw (by omega)
       subst this
       rcases hm with ⟨m,_⟩|⟨m,_⟩|⟨m,m'|m'|m'|m'⟩|⟨m,m'|m'|m'|m'⟩|⟨m,_⟩|⟨m,_⟩|⟨m,_⟩|⟨m,_⟩|⟨m,_⟩|⟨m,_⟩|⟨m,_⟩|⟨m,_⟩|⟨m,_⟩|⟨m,_⟩|⟨m,_⟩
       all_goals first
        | (exfalso;omega)
        | (refine ⟨hv',?_,?_,?_,?_⟩<;>simp [rawI,prsI,m,m'];done)
        | (refine ⟨hv',?_,?_,?_,?_⟩<;>simp [rawI,prsI,m,m']<;>exact ⟨_,_,rfl⟩)
     · have:=hz (by omega)
       subst this
       rcases hm with ⟨m,m'|m'⟩|⟨m,m'|m'|m'⟩|⟨m,_⟩|⟨m,_⟩|⟨m,_⟩|⟨m,_⟩|⟨m,_⟩|⟨m,_⟩|⟨m,_⟩|⟨m,m'|m'⟩|⟨m,m'|m'⟩|⟨m,m'|m'|m'⟩|⟨m,m'|m'|m'⟩|⟨m,m'⟩|⟨m,m'|m'|m'|m'⟩
       all_goals first
        | (exfalso;omega)
        | (refine ⟨hv',?_,?_,?_,?_⟩<;>simp [rawI,prsI,m,m']<;>(try (have:=hraw (by omega);simp_all));done)
        | skip
theorem tk_fold_ok: ∀ (t:Bs) {x y:TkI},TkOk x→tkFold x t=some y→TkOk y
 | [],x,y,h,e=>by cases e;exact h
 | b::t,x,y,h,e=>by
   rw [tkFold_cons] at e
   cases hq:tkStep x b with
   | none=>rw [hq] at e;cases e
   | some z=>rw [hq] at e;exact tk_fold_ok t (tk_ok h hq) e
structure TkS where
 s:St
 buf:Bs
 ps:List (Bs×Bs)
 out:List TokD
end Go.Proofs.Ytnbjogilidfkdaa

/- Tokens of markup: the program's reading and the reference's agree. Plain. -/
namespace Go.Proofs.Ytnbjogilidfkdaa
set_option maxRecDepth 100000
set_option linter.unusedVariables false
set_option linter.unusedSimpArgs false
open Go.RowKit
theorem unPs_append (a b:List (Bs×Bs)):unPs (a++b)=unPs a++unPs b:=by simp [unPs]
theorem unPs_len (a:List (Bs×Bs)):(unPs a).length=a.length:=by simp [unPs]
theorem lastP_len (g:Bs×Bs→Bs×Bs): ∀ l:List (Bs×Bs),(lastP g l).length=l.length
 | []=>rfl
 | [p]=>rfl
 | p::q::r=>by
   have:=lastP_len g (q::r)
   simp [lastP,this]
structure SimT (x:TkI) (y:TkS):Prop where
 ok:TkOk x
 s:x.s=y.s
 out:x.out=y.out
 b0:x.s.mode=0∨10≤x.s.mode→x.raw=y.buf
 b1:(1≤x.s.mode∧x.s.mode≤5)∨x.s.mode=9→y.buf=[]
 p1:x.s.mode=1→y.ps=[]
 p2:x.s.mode=2∨x.s.mode=3→y.ps=unPs x.ps
 p4:4≤x.s.mode∧x.s.mode≤8→ ∃ l,x.ps=l++[(x.s.attr,y.buf)]∧y.ps=unPs l
 lo:y.out.length≤60
 lp:y.ps.length≤60
theorem tkStep_go {x:TkI} {b:UInt8} (n15:(step x.s b).mode≠15) (hcl: ¬ ((2≤x.s.mode∧x.s.mode≤8)∧((step x.s b).mode=0∨(step x.s b).mode=11))):tkStep x b=some ⟨step x.s b,(rawI x (step x.s b) b).1,prsI x (step x.s b) b,(rawI x (step x.s b) b).2⟩:=by
 unfold tkStep
 rw [if_neg n15,if_neg hcl]
theorem tkStep_end {x:TkI} {b:UInt8} (n15:(step x.s b).mode≠15) (hcl:(2≤x.s.mode∧x.s.mode≤8)∧((step x.s b).mode=0∨(step x.s b).mode=11)):tkStep x b=if 60<x.ps.length then none else some ⟨step x.s b,x.raw,[],x.out++[tkOpen x.s.tag (unPs x.ps)]⟩:=by
 unfold tkStep
 rw [if_neg n15,if_pos hcl]
end Go.Proofs.Ytnbjogilidfkdaa

/- Trusted markup: balanced tokens, tags that are closed, cleaned tokens. Plain. -/
namespace Go.Proofs.Ytnbjogilidfkdaa
set_option maxRecDepth 100000
set_option linter.unusedVariables false
set_option linter.unusedSimpArgs false
open Go.RowKit
/-- A token that a text is divided into. -/
def wfT (t:TokD):Prop:=(t.kind=1∨t.kind=2∨t.kind=3∨t.kind=4∨t.kind=5)∧(t.kind≠2→t.pairs=[])
end Go.Proofs.Ytnbjogilidfkdaa

/- Printed tokens are read back. Plain. -/
namespace Go.Proofs.Ytnbjogilidfkdaa
set_option maxRecDepth 100000
set_option linter.unusedVariables false
set_option linter.unusedSimpArgs false
open Go.RowKit
theorem stV_67 {k:Int} (hk:k=6∨k=7) {m a:Bs} (h:nameB m=true) (h':nameB a=true) (s:Bool):stV ⟨k,m,a,s⟩=true:=by
 rcases hk with rfl|rfl<;>simp [stV,tagOk,attrOk,seenOk,h,h']
theorem fold_nil (x:TkI):tkFold x []=some x:=rfl
theorem fold_one {x y:TkI} {b:UInt8} {t:Bs} (h:tkStep x b=some y):tkFold x (b::t)=tkFold y t:=by rw [tkFold_cons,h];rfl
theorem fold_run {x y:TkI} {t u:Bs} (h:tkFold x t=some y):tkFold x (t++u)=tkFold y u:=by rw [tkFold_append,h];rfl
/-- Texts without a bracket. -/
theorem run_text: ∀ (t raw:Bs) (out:List TokD),(∀ b ∈ t,b.toNat≠60)→tkFold ⟨st0,raw,[],out⟩ t=some ⟨st0,raw++t,[],out⟩
 | [],raw,out,_=>by rw [fold_nil,List.append_nil]
 | b::t,raw,out,h=>by
   have hb:=h b List.mem_cons_self
   have hs:step st0 b=st0:=by rw [step_val stV_st0,stepV_0 rfl,if_neg hb]
   have e:tkStep ⟨st0,raw,[],out⟩ b=some ⟨st0,raw++[b],[],out⟩:=by
    rw [tkStep_go (by rw [hs];simp [st0]) (by dsimp only;rw [hs];simp [st0])]
    have hs':=hs
    unfold st0 at hs'
    simp [rawI,prsI,hs',st0]
   rw [fold_one e,run_text t _ out (fun c hc=>h c (List.mem_cons_of_mem _ hc)),List.append_assoc];rfl
/-- A value in quotes. -/
theorem run_val {k:Int} {q:Nat} (hk:k=6∧q=34∨k=7∧q=39): ∀ (t v n a:Bs) (s:Bool) (ps:List (Bs×Bs)) (out:List TokD),nameB n=true→nameB a=true→(∀ b ∈ t,b.toNat≠q) →
 tkFold ⟨⟨k,n,a,s⟩,[],ps++[(a,v)],out⟩ t=some ⟨⟨k,n,a,s || !t.isEmpty⟩,[],ps++[(a,v++t)],out⟩
 | [],v,n,a,s,ps,out,_,_,_=>by rw [fold_nil,List.append_nil];simp
 | b::t,v,n,a,s,ps,out,hn,ha,h=>by
   have hb:=h b List.mem_cons_self
   have hv:=stV_67 (by omega:k=6∨k=7) hn ha s
   have hs:step ⟨k,n,a,s⟩ b=⟨k,n,a,true⟩:=by
    rw [step_val hv]
    rcases hk with ⟨rfl,rfl⟩|⟨rfl,rfl⟩
    · rw [stepV_6 rfl,if_neg hb]
    · rw [stepV_7 rfl,if_neg hb]
   have e:tkStep ⟨⟨k,n,a,s⟩,[],ps++[(a,v)],out⟩ b=some ⟨⟨k,n,a,true⟩,[],ps++[(a,v++[b])],out⟩:=by
    rw [tkStep_go (by rw [hs];dsimp only;omega) (by dsimp only;rw [hs];dsimp only;omega)]
    rcases hk with ⟨rfl,rfl⟩|⟨rfl,rfl⟩<;>simp [rawI,prsI,hs,lastP_snoc]
   rw [fold_one e,run_val hk t (v++[b]) n a true ps out hn ha (fun c hc=>h c (List.mem_cons_of_mem _ hc)),List.append_assoc]
   simp
end Go.Proofs.Ytnbjogilidfkdaa

/- Valid tokens, printed; clean markup. Plain. -/
namespace Go.Proofs.Ytnbjogilidfkdaa
set_option maxRecDepth 100000
set_option linter.unusedVariables false
set_option linter.unusedSimpArgs false
open Go.RowKit
theorem tok_wf_step {x y:TkI} {b:UInt8} (h: ∀ t ∈ x.out,wfT t) (e:tkStep x b=some y): ∀ t ∈ y.out,wfT t:=by
 have w1: ∀ v,wfT (tkText v):=fun v=>⟨.inl rfl,fun _=>rfl⟩
 have w2: ∀ n ps,wfT (tkOpen n ps):=fun n ps=>⟨.inr (.inl rfl),fun h=>absurd rfl h⟩
 have w3: ∀ n,wfT (tkEnd n):=fun n=>⟨.inr (.inr (.inl rfl)),fun _=>rfl⟩
 have w4: ∀ v,wfT (tkCom v):=fun v=>⟨.inr (.inr (.inr (.inl rfl))),fun _=>rfl⟩
 have w5: ∀ v,wfT (tkScr v):=fun v=>⟨.inr (.inr (.inr (.inr rfl))),fun _=>rfl⟩
 have app: ∀ u,wfT u→ ∀ t ∈ x.out++[u],wfT t:=by
  intro u hu t ht
  rcases List.mem_append.1 ht with ht|ht
  · exact h t ht
  · obtain rfl:t=u:=by simpa using ht
    exact hu
 unfold tkStep at e
 split at e
 · cases e
 split at e
 · split at e
   · cases e
   · cases e;exact app _ (w2 _ _)
 · cases e
   dsimp only
   unfold rawI
   (repeat' split)<;>first
     | exact h
     | exact app _ (w1 _)
     | exact app _ (w3 _)
     | exact app _ (w4 _)
     | exact app _ (w5 _)
theorem tok_wf_fold: ∀ (t:Bs) {x y:TkI},(∀ t ∈ x.out,wfT t)→tkFold x t=some y→ ∀ t ∈ y.out,wfT t
 | [],x,y,h,e=>by cases e;exact h
 | b::t,x,y,h,e=>by
   rw [tkFold_cons] at e
   cases hq:tkStep x b with
   | none=>rw [hq] at e;cases e
   | some z=>rw [hq] at e;exact tok_wf_fold t (tok_wf_step h hq) e
theorem tok_wf {s:Bs} {l:List TokD} (h:tokM s=some l):(∀ t ∈ l,wfT t)∧l.length≤60:=by
 unfold tokM at h
 split at h
 · cases hf:tkFold tkI0 s with
   | none=>rw [hf] at h;cases h
   | some y =>
     rw [hf] at h
     have hw:=tok_wf_fold s (x:=tkI0) (fun t ht=>by cases ht) hf
     have h:tkFin y=some l:=h
     unfold tkFin at h
     have hz: ∀ t ∈ (if y.raw=[] then y.out else y.out++[tkText (unT y.raw)]),wfT t:=by
      split
      · exact hw
      · intro t ht
        rcases List.mem_append.1 ht with ht|ht
        · exact hw t ht
        · obtain rfl:t=_:=by simpa using ht
          exact ⟨.inl rfl,fun _=>rfl⟩
     generalize (if y.raw=[] then y.out else y.out++[tkText (unT y.raw)])=Z at h hz
     split at h
     · cases h
     split at h
     · cases h
     · cases h
       exact ⟨hz,by omega⟩
 · cases h
theorem textB_iff {s:Bs}:textB s=true↔s.length≤600∧ ∀ b ∈ s,okByte b.toNat=true:=by
 unfold textB allB
 rw [Bool.and_eq_true,decide_eq_true_eq,List.all_eq_true]
end Go.Proofs.Ytnbjogilidfkdaa

/- Sizes of tokens. Plain. -/
namespace Go.Proofs.Ytnbjogilidfkdaa
set_option maxRecDepth 100000
set_option linter.unusedVariables false
set_option linter.unusedSimpArgs false
open Go.RowKit
def bdP (N:Nat) (p:Bs×Bs):Prop:=p.1.length≤10∧p.2.length≤N
def bdT (N:Nat) (t:TokD):Prop:=t.name.length≤10∧t.value.length≤N∧t.pairs.length≤60∧ ∀ p ∈ t.pairs,bdP N p
theorem bdT_mono {N M:Nat} {t:TokD} (h:bdT N t) (hm:N≤M):bdT M t:=by
 obtain ⟨h1,h2,h3,h4⟩:=h
 exact ⟨h1,by omega,h3,fun p hp=>⟨(h4 p hp).1,by have:=(h4 p hp).2;omega⟩⟩
structure BdI (N:Nat) (x:TkI):Prop where
 v:stV x.s=true
 raw:x.raw.length≤N
 out: ∀ t ∈ x.out,bdT N t
 ps: ∀ p ∈ x.ps,bdP N p
theorem bd_snoc {N:Nat} {l:List TokD} {u:TokD} (h: ∀ t ∈ l,bdT N t) (hu:bdT N u): ∀ t ∈ l++[u],bdT N t:=by
 intro t ht
 rcases List.mem_append.1 ht with ht|ht
 · exact h t ht
 · obtain rfl:t=u:=by simpa using ht
   exact hu
theorem last_mem {g:Bs×Bs→Bs×Bs}: ∀ {l:List (Bs×Bs)} {p:Bs×Bs},p ∈ lastP g l→p ∈ l∨ ∃ q ∈ l,p=g q
 | [],p,h=>by cases h
 | [q],p,h=>by
   obtain rfl:p=g q:=by simpa [lastP] using h
   exact .inr ⟨q,by simp,rfl⟩
 | q::r::l,p,h=>by
   have h:p ∈ q::lastP g (r::l):=h
   rcases List.mem_cons.1 h with rfl|h
   · exact .inl (by simp)
   · rcases last_mem h with h|⟨u,hu,e⟩
     · exact .inl (List.mem_cons_of_mem _ h)
     · exact .inr ⟨u,List.mem_cons_of_mem _ hu,e⟩
theorem bd_step {N:Nat} {x y:TkI} {b:UInt8} (h:BdI N x) (e:tkStep x b=some y):BdI (N+1) y:=by
 obtain ⟨hv,hr,ho,hp⟩:=h
 have hv':=stV_step x.s b
 have ht:=stV_tag_len hv
 have ha:=stV_attr_len hv'
 have ho': ∀ t ∈ x.out,bdT (N+1) t:=fun t ht=>bdT_mono (ho t ht) (by omega)
 have hp': ∀ p ∈ x.ps,bdP (N+1) p:=fun p hq=>⟨(hp p hq).1,by have:=(hp p hq).2;omega⟩
 have hu:=unT_len x.raw
 have b1:bdT (N+1) (tkText (unT x.raw)):=⟨by simp [tkText],by show (unT x.raw).length≤_;omega,by simp [tkText],fun p hp=>by cases hp⟩
 have b3:bdT (N+1) (tkEnd x.s.tag):=⟨ht,by simp [tkEnd],by simp [tkEnd],fun p hp=>by cases hp⟩
 have b4:bdT (N+1) (tkCom x.raw):=⟨by simp [tkCom],by show x.raw.length≤_;omega,by simp [tkCom],fun p hp=>by cases hp⟩
 have b5:bdT (N+1) (tkScr x.raw.dropLast):=⟨by simp [tkScr],by show x.raw.dropLast.length≤_;rw [List.length_dropLast];omega,by simp [tkScr],fun p hp=>by cases hp⟩
 unfold tkStep at e
 generalize step x.s b=n at *
 split at e
 · cases e
 split at e
 · split at e
   · cases e
   · rename_i hl
     cases e
     refine ⟨hv',by dsimp only;omega,bd_snoc ho' ⟨ht,by simp [tkOpen],by show (unPs x.ps).length≤60;rw [unPs_len];omega,fun p hq=>?_⟩,fun p hp=>by cases hp⟩
     have hq:p ∈ unPs x.ps:=hq
     unfold unPs at hq
     obtain ⟨q,hq2,rfl⟩:=List.mem_map.1 hq
     have:=unT_len q.2
     exact ⟨(hp' q hq2).1,by have:=(hp' q hq2).2;dsimp only;omega⟩
 · cases e
   refine ⟨hv',?_,?_,?_⟩
   · dsimp only
     unfold rawI
     (repeat' split)<;>simp<;>omega
   · dsimp only
     unfold rawI
     (repeat' split)<;>first
       | exact ho'
       | exact bd_snoc ho' b1
       | exact bd_snoc ho' b3
       | exact bd_snoc ho' b4
       | exact bd_snoc ho' b5
   · dsimp only
     unfold prsI
     split
     · intro p hp;cases hp
     split
     · split
       · intro p hq
         rcases List.mem_append.1 hq with hq|hq
         · exact hp' p hq
         · obtain rfl:p=(n.attr,[]):=by simpa using hq
           exact ⟨ha,by simp⟩
       split
       · intro p hq
         rcases last_mem hq with hq|⟨q,hq2,rfl⟩
         · exact hp' p hq
         · exact ⟨ha,(hp' q hq2).2⟩
       split
       · intro p hq
         rcases last_mem hq with hq|⟨q,hq2,rfl⟩
         · exact hp' p hq
         · exact ⟨(hp q hq2).1,by dsimp only;rw [List.length_append,List.length_singleton];have:=(hp q hq2).2;omega⟩
       split
       · intro p hp;cases hp
       · exact hp'
     · exact hp'
theorem bd_fold: ∀ (t:Bs) {N:Nat} {x y:TkI},BdI N x→tkFold x t=some y→BdI (N+t.length) y
 | [],N,x,y,h,e=>by cases e;exact h
 | b::t,N,x,y,h,e=>by
   rw [tkFold_cons] at e
   cases hq:tkStep x b with
   | none=>rw [hq] at e;cases e
   | some z =>
     rw [hq] at e
     rw [List.length_cons,show N+(t.length+1)=N+1+t.length by omega]
     exact bd_fold t (bd_step h hq) e
theorem tok_bd {s:Bs} {l:List TokD} (h:tokM s=some l):l.length≤60∧ ∀ t ∈ l,bdT 600 t:=by
 refine ⟨(tok_wf h).2,?_⟩
 unfold tokM at h
 split at h
 · rename_i ht
   have hl:=(textB_iff.1 ht).1
   cases hf:tkFold tkI0 s with
   | none=>rw [hf] at h;cases h
   | some y =>
     rw [hf] at h
     have hb:BdI (0+s.length) y:=bd_fold s (x:=tkI0) ⟨stV_st0,Nat.le_refl _,(fun t ht=>by cases ht),(fun p hp=>by cases hp)⟩ hf
     have ho: ∀ t ∈ y.out,bdT 600 t:=fun t ht=>bdT_mono (hb.out t ht) (by omega)
     have h:tkFin y=some l:=h
     unfold tkFin at h
     have hz: ∀ t ∈ (if y.raw=[] then y.out else y.out++[tkText (unT y.raw)]),bdT 600 t:=by
      split
      · exact ho
      · have:=unT_len y.raw
        have:=hb.raw
        exact bd_snoc ho ⟨by simp [tkText],by show (unT y.raw).length≤_;omega,by simp [tkText],fun p hp=>by cases hp⟩
     generalize (if y.raw=[] then y.out else y.out++[tkText (unT y.raw)])=Z at h hz
     split at h
     · cases h
     split at h
     · cases h
     · cases h
       exact hz
 · cases h
end Go.Proofs.Ytnbjogilidfkdaa

/- Tokens as cells; how deep they are open. Plain. -/
namespace Go.Proofs.Ytnbjogilidfkdaa
set_option maxRecDepth 100000
set_option linter.unusedVariables false
set_option linter.unusedSimpArgs false
open Go.RowKit
theorem encTk_mk (k:Int) (n v:Bs) (ps:List (Bs×Bs)):encTk ⟨k,n,v,ps⟩=[.int .i64 k,.str n,.str v,.seq (encPrs ps)]:=rfl
theorem encTks_len (l:List TokD):(encTks l).length=l.length:=by simp [encTks]
theorem encTks_get (l:List TokD) (k:Nat):(encTks l)[k]?=(l[k]?).map encTk:=by simp [encTks]
theorem encTks_app (a b:List TokD):encTks (a++b)=encTks a++encTks b:=by simp [encTks]
theorem encTks_pt (a:List TokD) (k:Int) (n v:Bs) (ps:List (Bs×Bs)):encTks a++[[.int .i64 k,.str n,.str v,.seq (encPrs ps)]]=encTks (a++[⟨k,n,v,ps⟩]):=by rw [encTks_app];rfl
theorem encTks_nil:encTks []=[]:=rfl
theorem encTks_all (l:List TokD):(∀ e ∈ encTks l,e.length=4)=True:=eq_true (by
 intro e he
 obtain ⟨t,_,rfl⟩:=List.mem_map.1 he;rfl)
theorem encPrs_len (l:List (Bs×Bs)):(encPrs l).length=l.length:=by simp [encPrs]
theorem encPrs_get (l:List (Bs×Bs)) (k:Nat):(encPrs l)[k]?=(l[k]?).map encPr:=by simp [encPrs]
theorem encPrs_app (a b:List (Bs×Bs)):encPrs (a++b)=encPrs a++encPrs b:=by simp [encPrs]
theorem encPrs_pt (a:List (Bs×Bs)) (n v:Bs):encPrs a++[[.str n,.str v]]=encPrs (a++[(n,v)]):=by rw [encPrs_app];rfl
theorem encPrs_all (l:List (Bs×Bs)):(∀ e ∈ encPrs l,e.length=2)=True:=eq_true (by
 intro e he
 obtain ⟨t,_,rfl⟩:=List.mem_map.1 he;rfl)
theorem encPr_inj {x y:Bs×Bs} (h:encPr x=encPr y):x=y:=by
 obtain ⟨a,b⟩:=x
 obtain ⟨c,d⟩:=y
 simp [encPr] at h
 rw [h.1,h.2]
theorem encPrs_inj {a b:List (Bs×Bs)} (h:encPrs a=encPrs b):a=b:=(List.map_inj_right (fun x y e=>encPr_inj e)).1 h
theorem encTk_inj {x y:TokD} (h:encTk x=encTk y):x=y:=by
 obtain ⟨k,n,v,ps⟩:=x
 obtain ⟨k',n',v',ps'⟩:=y
 rw [encTk_mk,encTk_mk] at h
 simp only [List.cons.injEq,PV.int.injEq,PV.str.injEq,PV.seq.injEq,true_and,and_true] at h
 obtain ⟨rfl,rfl,rfl,h⟩:=h
 rw [encPrs_inj h]
theorem encTks_inj {a b:List TokD} (h:encTks a=encTks b):a=b:=(List.map_inj_right (fun x y e=>encTk_inj e)).1 h
theorem encTks_iff {a b:List TokD}:encTks a=encTks b↔a=b:=⟨encTks_inj,fun h=>h ▸ rfl⟩
/-- Small tokens. -/
def smTk (t:TokD):Prop:=t.name.length≤10∧t.value.length≤72000∧t.pairs.length≤60∧ ∀ p ∈ t.pairs,p.1.length≤10∧p.2.length≤72000
def smTks (l:List TokD):Prop:=l.length≤1000∧ ∀ t ∈ l,smTk t
theorem smTk_of {N:Nat} {t:TokD} (h:bdT N t) (hN:N≤72000):smTk t:=bdT_mono h hN
theorem sm_tok {s:Bs} {l:List TokD} (h:tokM s=some l):smTks l:=by
 obtain ⟨h1,h2⟩:=tok_bd h
 exact ⟨by omega,fun t ht=>smTk_of (h2 t ht) (by omega)⟩
theorem smTk_at {l:List TokD} (h:smTks l) {k:Nat} {t:TokD} (hx:l[k]?=some t):smTk t:=h.2 t (List.mem_of_getElem? hx)
theorem drop_tk {α:Type} {l:List α} {k:Nat} {x:α} (h:l[k]?=some x):l.drop k=x::l.drop (k+1):=by
 obtain ⟨hk,rfl⟩:=List.getElem?_eq_some_iff.1 h
 exact List.drop_eq_getElem_cons hk
end Go.Proofs.Ytnbjogilidfkdaa

/- Reading tokens: what holds behind some bytes. Plain. -/
namespace Go.Proofs.Ytnbjogilidfkdaa
set_option maxRecDepth 100000
set_option linter.unusedVariables false
set_option linter.unusedSimpArgs false
open Go.RowKit
/-- What holds behind k bytes of s. -/
structure TkAt (s:Bs) (k:Nat) (x:TkI):Prop where
 ok:TkOk x
 bd:BdI k x
 lo:x.out.length≤k
 lp:x.ps.length≤k
 eq:(tkFold tkI0 s).bind tkFin=(tkFold x (s.drop k)).bind tkFin
theorem TkAt.zero (s:Bs):TkAt s 0 tkI0:=⟨tkI0_ok,⟨stV_st0,Nat.le_refl _,(fun t h=>by cases h),(fun t h=>by cases h)⟩,Nat.le_refl _,Nat.le_refl _,rfl⟩
theorem tkStep_lens {x y:TkI} {b:UInt8} (e:tkStep x b=some y):y.out.length≤x.out.length+1∧y.ps.length≤x.ps.length+1:=by
 unfold tkStep at e
 split at e
 · cases e
 split at e
 · split at e
   · cases e
   · cases e
     simp
 · cases e
   refine ⟨?_,?_⟩
   · unfold rawI
     (repeat' split)<;>simp
   · unfold prsI
     (repeat' split)<;>simp [lastP_len]
theorem drop_get {s:Bs} {k:Nat} (h:k<s.length):s.drop k=s.getD k 0::s.drop (k+1):=by
 rw [List.drop_eq_getElem_cons h]
 simp [List.getD_eq_getElem?_getD,h]
theorem TkAt.step {s:Bs} {k:Nat} {x y:TkI} (h:TkAt s k x) (hk:k<s.length) (e:tkStep x (s.getD k 0)=some y):TkAt s (k+1) y:=by
 obtain ⟨h1,h2⟩:=tkStep_lens e
 refine ⟨tk_ok h.ok e,bd_step h.bd e,by have:=h.lo;omega,by have:=h.lp;omega,?_⟩
 rw [h.eq,drop_get hk,tkFold_cons,e]
 rfl
theorem TkAt.stop {s:Bs} {k:Nat} {x:TkI} (h:TkAt s k x) (hk:k<s.length) (ht:textB s=true) (e:tkStep x (s.getD k 0)=none):tokM s=none:=by
 unfold tokM
 rw [if_pos ht,h.eq,drop_get hk,tkFold_cons,e]
 rfl
theorem TkAt.fin {s:Bs} {k:Nat} {x:TkI} (h:TkAt s k x) (hk:s.length≤k) (ht:textB s=true):tokM s=tkFin x:=by
 unfold tokM
 rw [if_pos ht,h.eq,List.drop_eq_nil_of_le hk]
 rfl
theorem tokM_bad {s:Bs} (h:textB s=false):tokM s=none:=by
 unfold tokM
 rw [if_neg (by rw [h];decide)]
/-- The last attribute is written over. -/
theorem encPrs_setl (l:List (Bs×Bs)) (p q:Bs×Bs):(encPrs (l++[p])).set l.length [.str q.1,.str q.2]=encPrs (l++[q]):=by
 rw [encPrs_app,encPrs_app,List.set_append_right _ _ (by rw [encPrs_len];exact Nat.le_refl _),encPrs_len,Nat.sub_self]
 rfl
theorem encPrs_getl (l:List (Bs×Bs)) (p:Bs×Bs):(encPrs (l++[p]))[l.length]?=some [.str p.1,.str p.2]:=by
 simp [encPrs,encPr]
/-- Some attributes are unescaped. -/
def psJ (ps:List (Bs×Bs)) (j:Nat):List (Bs×Bs):=unPs (ps.take j)++ps.drop j
theorem psJ_zero (ps:List (Bs×Bs)):psJ ps 0=ps:=by simp [psJ,unPs]
theorem psJ_all (ps:List (Bs×Bs)):psJ ps ps.length=unPs ps:=by simp [psJ]
theorem psJ_len (ps:List (Bs×Bs)) (j:Nat):(psJ ps j).length=ps.length:=by simp [psJ,unPs];omega
theorem psJ_get {ps:List (Bs×Bs)} {j:Nat} {p:Bs×Bs} (h:ps[j]?=some p):(encPrs (psJ ps j))[j]?=some [.str p.1,.str p.2]:=by
 obtain ⟨hj,rfl⟩:=List.getElem?_eq_some_iff.1 h
 rw [encPrs_get,psJ,List.getElem?_append_right (by simp [unPs];omega)]
 simp [unPs,encPr,Nat.min_eq_left (Nat.le_of_lt hj),hj]
theorem psJ_set {ps:List (Bs×Bs)} {j:Nat} {p:Bs×Bs} (h:ps[j]?=some p):(encPrs (psJ ps j)).set j [.str p.1,.str (unT p.2)]=encPrs (psJ ps (j+1)):=by
 obtain ⟨hj,rfl⟩:=List.getElem?_eq_some_iff.1 h
 have hl:(unPs (ps.take j)).length=j:=by simp [unPs];omega
 unfold psJ
 rw [encPrs_app,List.set_append_right _ _ (by rw [encPrs_len,hl];exact Nat.le_refl _),encPrs_len,hl,Nat.sub_self,List.drop_eq_getElem_cons hj,show ps.take (j+1)=ps.take j++[ps[j]] from (List.take_append_getElem hj).symm,unPs_append,encPrs_app,encPrs_app,List.append_assoc]
 rfl
end Go.Proofs.Ytnbjogilidfkdaa

/- Valid tokens by steps; how long they are printed; safe markup by steps. Plain. -/
namespace Go.Proofs.Ytnbjogilidfkdaa
set_option maxRecDepth 100000
set_option linter.unusedVariables false
set_option linter.unusedSimpArgs false
open Go.RowKit
theorem wf_tok {s:Bs} {l:List TokD} (h:tokM s=some l):smTks l∧ ∀ t ∈ l,wfT t:=⟨sm_tok h,(tok_wf h).1⟩
end Go.Proofs.Ytnbjogilidfkdaa
