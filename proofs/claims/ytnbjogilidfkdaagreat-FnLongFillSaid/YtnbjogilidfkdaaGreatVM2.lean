/- Memory, second part: slices that read as lists; append onto a row of the call's own, whatever the source. -/
import Derived.Test.YtnbjogilidfkdaaGreatVM
import Derived.Below
import Derived.Laws.OwnMore
import Derived.Deep.AppendLies
import Derived.Deep.Draws
import Derived.Maps.AppendAt
import Derived.RegionTactic
import Derived.OwnWalk
import Derived.Lib.BufferRead

namespace Go.Proofs.YtnbjogilidfkdaaGreat
set_option maxRecDepth 100000
set_option linter.unusedVariables false
set_option linter.unusedSimpArgs false
open Go.RowKit
theorem block_of_add (a:Addr) (n:Nat):(a.add n).block=a.block:=by unfold Addr.add;split<;>rfl
theorem add_of_add (a:Addr) (i j:Nat):(a.add i).add j=a.add (i+j):=by
 unfold Addr.add
 by_cases hi:i=0<;>by_cases hj:j=0<;>simp [hi,hj,Nat.add_assoc]
def Reads (w:World) (B size:Nat) (A:Option Addr) (n:Nat) (xs:List Value):Prop :=
 xs.length=n * size∧(0<n→ ∃ ad,A=some ad∧ad.block<B∧ ∀ j u,xs[j]?=some u→w.cell? (ad.add j)=some u)
section
variable {w w':World} {B B' size n:Nat} {A:Option Addr} {xs:List Value}
theorem Reads.none_:Reads w B size A 0 []:=⟨by simp,fun h=>absurd h (by omega)⟩
theorem Reads.keep (h:Reads w B size A n xs) (hk: ∀ p:Addr,p.block<B→w'.cell? p=w.cell? p):Reads w' B size A n xs :=
 ⟨h.1,fun hn=>by
  obtain ⟨ad,e,hb,hc⟩:=h.2 hn
  exact ⟨ad,e,hb,fun j u hu=>(hk _ (by rw [block_of_add];exact hb)).trans (hc j u hu)⟩⟩
theorem Reads.more (h:Reads w B size A n xs) (hB:B≤B'):Reads w B' size A n xs :=
 ⟨h.1,fun hn=>by
  obtain ⟨ad,e,hb,hc⟩:=h.2 hn
  exact ⟨ad,e,by omega,hc⟩⟩
theorem Reads.drew (h:Reads w B size A n xs):Reads w.drew B size A n xs:=h
theorem Reads.alloc (h:Reads w B size A n xs) (hB:B≤w.heap.size) (o:Obj):Reads (w.alloc o) B size A n xs:=h.keep fun p hp=>World.cell?_alloc_lt w o p (by omega)
theorem Reads.setCell (h:Reads w B size A n xs) {p:Addr} (hB:B≤p.block) (u:Value):Reads (w.setCell p u) B size A n xs :=
 h.keep fun q hq=>World.cell?_setCell_other w p q u (fun e=>by subst e;omega)
theorem Reads.cut (h:Reads w B size A n xs) {k cap:Nat} (hk:k≤n) (hc:n≤cap) :
 Reads w B size (if cap=k then A else A.map (·.add (k * size))) (n - k) (xs.drop (k * size)):=by
 refine ⟨by rw [List.length_drop,h.1,Nat.sub_mul],fun hn=>?_⟩
 obtain ⟨ad,rfl,hb,hcell⟩:=h.2 (by omega)
 rw [if_neg (by omega)]
 refine ⟨ad.add (k * size),rfl,by rw [block_of_add];exact hb,fun j u hu=>?_⟩
 rw [add_of_add]
 exact hcell _ u (by rw [← hu,List.getElem?_drop])
end
section
variable {P:Program} (w:World)
theorem run_append_of_nil (base:Nat) (t ty e:TypeId) (i:TypeInfo) (size:Nat) (ht:P.underlying t=some (.slice e)) (hi:P.info? e=some i)
 (v:Value) (n:Nat) (xs:List Value) (hown:w.ownsRow base e size v n xs) (c:Nat):(Builtin.append_ #[t,t] ty #[v,.slice none 0 c]).run P w= .ok v w:=by
 rcases hown.2 with ⟨rfl,rfl⟩|⟨g,cap,cur,rfl,_,_,hnc,_⟩
 · simp [Builtin.append_,run_underlying ht,sizeOf,typeInfo,hi,Builtin.lenOf,Builtin.firstCells]
 · simp [Builtin.append_,run_underlying ht,sizeOf,typeInfo,hi,Builtin.lenOf,Builtin.firstCells,hnc,storeCells]
theorem run_append_any (base:Nat) (t ty e:TypeId) (i:TypeInfo) (z:Value) (size bytes:Nat) (ht:P.underlying t=some (.slice e)) (hi:P.info? e=some i) (hz:i.zero=some z)
 (hsize:i.size=size) (hby:i.bytes=bytes) (hzs:z.cells.size=size) (hsz:0<size)
 (v:Value) (n:Nat) (xs:List Value) (hown:w.ownsRow base e size v n xs)
 (B:Nat) (A:Option Addr) (m c:Nat) (news:List Value) (hr:Reads w B size A m news) (h1: ∀ u ∈ news,u.oneCell'=true)
 (h63:n+m≤maxLen) (hbytes:(n+m) * bytes≤140737488355328) (hbase:base≤w.heap.size) :
 ∃ v' w',(Builtin.append_ #[t,t] ty #[v,.slice A m c]).run P w= .ok v' w'∧w'.ownsRow base e size v' (n+m) (xs++news)∧w.grownBy w' v.ownBlock ∧
   (v'.ownBlock=v.ownBlock∨v'.ownBlock=some w.heap.size):=by
 rcases A with _|ad
 · have hm:m=0:=by
    rcases Nat.eq_zero_or_pos m with h0|h0
    · exact h0
    · obtain ⟨ad,h,_⟩:=hr.2 h0
      cases h
   subst hm
   have hn:news=[]:=List.eq_nil_of_length_eq_zero (by simpa using hr.1)
   subst hn
   exact ⟨v,w,run_append_of_nil w base t ty e i size ht hi v n xs hown c,by simpa using hown,World.grownBy.refl w _,.inl rfl⟩
 · have hcells: ∀ j u,news[j]?=some u→w.cell? (ad.add j)=some u:=by
    intro j u hu
    rcases Nat.eq_zero_or_pos m with h0|h0
    · subst h0
      have hn:news=[]:=List.eq_nil_of_length_eq_zero (by simpa using hr.1)
      subst hn
      simp at hu
    · obtain ⟨ad',h,_,hc⟩:=hr.2 h0
      injection h with h
      subst h
      exact hc j u hu
   obtain ⟨v',w',hrun,h2,h3,_,h5⟩:=run_append_own_at (P:=P) w base t ty e i z size bytes ht hi hz hsize hby hzs hsz v n xs hown ad m c news hr.1 hcells h1 h63 hbytes hbase
   exact ⟨v',w',hrun,h2,h3,h5⟩
theorem wp_append_any {o:Oper} {a:Act} {K:Act→World→Prop} {Q:Exit→Act→World→Prop} (s x:Operand) (t:TypeId)
 (ho:o.op= .call { callee:= .builtin .append,args:= #[s,x],argTypes:= #[t,t] })
 (base:Nat) (e:TypeId) (i:TypeInfo) (z:Value) (size bytes:Nat) (ht:P.underlying t=some (.slice e)) (hi:P.info? e=some i) (hz:i.zero=some z)
 (hsize:i.size=size) (hby:i.bytes=bytes) (hzs:z.cells.size=size) (hsz:0<size)
 (v:Value) (n:Nat) (xs:List Value) (hs:a.eval s=v) (hown:w.ownsRow base e size v n xs)
 (B:Nat) (A:Option Addr) (m c:Nat) (news:List Value) (hx:a.eval x= .slice A m c) (hr:Reads w B size A m news) (h1: ∀ u ∈ news,u.oneCell'=true)
 (h63:n+m≤maxLen) (hbytes:(n+m) * bytes≤140737488355328) (hbase:base≤w.heap.size)
 (h: ∀ v' w',w'.ownsRow base e size v' (n+m) (xs++news)→w.grownBy w' v.ownBlock→(v'.ownBlock=v.ownBlock∨v'.ownBlock=some w.heap.size)→K (a.put o.dst v') w'):o.wp P a w K Q:=by
 obtain ⟨v',w',hrun,h2,h3,h4⟩:=run_append_any (P:=P) w base t o.type e i z size bytes ht hi hz hsize hby hzs hsz v n xs hown B A m c news hr h1 h63 hbytes hbase
 unfold Oper.wp execOp
 simp only [ho,resolve,invoke,builtin,Sem.run_bind,Sem.run_pure,Result.andThen_ok,List.map_toArray,List.map_cons,List.map_nil,hs,hx,hrun]
 exact h v' w' h2 h3 h4
theorem wpList_append_any {ops:Array Oper} {rest:List Oper} {o:Oper} {a:Act} {Q:Exit→Act→World→Prop} (hgd:o.guard=none) (s x:Operand) (t:TypeId)
 (ho:o.op= .call { callee:= .builtin .append,args:= #[s,x],argTypes:= #[t,t] })
 (base:Nat) (e:TypeId) (i:TypeInfo) (z:Value) (size bytes:Nat) (ht:P.underlying t=some (.slice e)) (hi:P.info? e=some i) (hz:i.zero=some z)
 (hsize:i.size=size) (hby:i.bytes=bytes) (hzs:z.cells.size=size) (hsz:0<size)
 (v:Value) (n:Nat) (xs:List Value) (hs:a.eval s=v) (hown:w.ownsRow base e size v n xs)
 (B:Nat) (A:Option Addr) (m c:Nat) (news:List Value) (hx:a.eval x= .slice A m c) (hr:Reads w B size A m news) (h1: ∀ u ∈ news,u.oneCell'=true)
 (h63:n+m≤maxLen) (hbytes:(n+m) * bytes≤140737488355328) (hbase:base≤w.heap.size)
 (h: ∀ v' w',w'.ownsRow base e size v' (n+m) (xs++news)→w.grownBy w' v.ownBlock→(v'.ownBlock=v.ownBlock∨v'.ownBlock=some w.heap.size)→wpList P ops Q rest (a.put o.dst v') w'):wpList P ops Q (o::rest) a w :=
 wpList_plain hgd fun _ hK=>wp_append_any w s x t ho base e i z size bytes ht hi hz hsize hby hzs hsz v n xs hs hown B A m c news hx hr h1 h63 hbytes hbase fun v' w' h2 h3 h4=>hK _ _ (h v' w' h2 h3 h4)
end
/-- 'append(out, x)': the element was just laid into a block of its own. -/
theorem wpList_append_new {P:Program} (W:World) {ops:Array Oper} {rest:List Oper} {o:Oper} {a:Act} {Q:Exit→Act→World→Prop} (hgd:o.guard=none) (s x:Operand) (t:TypeId)
 (ho:o.op= .call { callee:= .builtin .append,args:= #[s,x],argTypes:= #[t,t] })
 (e:TypeId) (i:TypeInfo) (z:Value) (size bytes:Nat) (ht:P.underlying t=some (.slice e)) (hi:P.info? e=some i) (hz:i.zero=some z)
 (hsize:i.size=size) (hby:i.bytes=bytes) (hzs:z.cells.size=size) (hsz:0<size)
 {base:Nat} {v:Value} {n:Nat} {xs:List Value} (hown:W.ownsRow base e size v n xs) (hs:a.eval s=v)
 (l:List Value) (hx:a.eval x= .slice (some ⟨W.heap.size,0,none⟩) 1 1) (hl:l.length=size) (h1: ∀ u ∈ l,u.oneCell'=true)
 (h63:n+1≤maxLen) (hbytes:(n+1) * bytes≤140737488355328) (hbase:base≤W.heap.size)
 (h: ∀ v' w',w'.ownsRow base e size v' (n+1) (xs++l)→W.grownBy w' v.ownBlock→(v'.ownBlock=v.ownBlock∨v'.ownBlock=some (W.heap.size+1))→wpList P ops Q rest (a.put o.dst v') w') :
 wpList P ops Q (o::rest) a (W.alloc (.cells l.toArray e)):=by
 have hr:Reads (W.alloc (.cells l.toArray e)) (W.heap.size+1) size (some ⟨W.heap.size,0,none⟩) 1 l:=by
  refine ⟨by omega,fun _=>⟨_,rfl,by simp,fun j u hu=>?_⟩⟩
  have e1:(⟨W.heap.size,0,none⟩:Addr).add j=⟨W.heap.size,j,none⟩:=by unfold Addr.add;split<;>simp_all
  rw [e1,World.cell?_alloc_mark]
  simpa using hu
 refine wpList_append_any (W.alloc (.cells l.toArray e)) hgd s x t ho base e i z size bytes ht hi hz hsize hby hzs hsz v n xs hs (hown.alloc _) (W.heap.size+1) _ 1 1 l hx hr h1 h63 hbytes (by simp;omega) ?_
 intro v' w' h2 h3 h4
 refine h v' w' h2 ?_ ?_
 · exact ⟨h3.os,h3.tape,h3.output,by have:=h3.size;simp at this;omega,fun k hk hne=>(h3.block k (by simp;omega) hne).trans (Below.heap_alloc W _ k hk)⟩
 · simpa using h4
def B8 (b:UInt8):Value:= .int .u8 (b.toNat:Int)
/-- 'string(out)' of a row of bytes of the call's own. -/
theorem run_string_own {P:Program} {w:World} {base:Nat} {e:TypeId} {v:Value} {n:Nat} {l:List UInt8} (hown:w.ownsRow base e 1 v n (l.map B8)) (src dst:TypeId)
 (hs:P.underlying src=some (.slice e)) (he:P.underlying e=some (.int .u8)) (hd:P.underlying dst=some .string) :
 (convert src dst v).run P w= .ok (.string ⟨l.toArray⟩) w:=by
 have hn:l.length=n:=by have:=hown.1;simpa using this
 rcases hown.2 with ⟨rfl,rfl⟩|⟨g,cap,cur,rfl,hb,hg,hnc,hm,hsz,htake⟩
 · obtain rfl:l=[]:=List.eq_nil_of_length_eq_zero hn
   exact Lib.run_convert_nil_bytes w src dst e 0 hs he hd
 · subst hn
   refine run_convert_bytes_back w src dst e ⟨g,0,none⟩ cap l hs he hd (fun j hj=>?_)
   exact hown.cells (g:=g) rfl j _ (by simp [hj,B8])
end Go.Proofs.YtnbjogilidfkdaaGreat

/- Abstract values: values without a world, and what it is for a value of a world to stand for one. No program. -/
namespace Go.Proofs.YtnbjogilidfkdaaGreat
set_option maxRecDepth 100000
set_option linter.unusedVariables false
set_option linter.unusedSimpArgs false
open Go.RowKit
inductive PV where
 | undef
 | int (k:IntKind) (n:Int)
 | bool (b:Bool)
 | str (l:List UInt8)
 | nil
 | seq (es:List (List PV))
 | ref (id off:Nat)
 | rref (id i s off:Nat)
 | eref (cs:List PV)
 | own (id:Nat)
 | agg (cs:List PV)
 | tup (xs:List PV)
 | clo (f:FuncId) (caps:List PV)
 | raw (v:Value)
 deriving Inhabited
def PV.isCell:PV→Bool
 | .int .. | .bool _| .str _| .nil| .seq _| .own _| .ref .. | .clo .. =>true
 | .raw v=>v.oneCell'
 | _=>false
def baseOf:Value→Option Nat
 | .pointer (some ⟨b,0,none⟩)=>some b
 | .slice (some ⟨b,0,none⟩) _ _=>some b
 | _=>none
/-- A world, the blocks that never change, and the values that abstract names stand for. -/
structure Cx where
 w:World
 fz:Nat→Prop
 ρ:Nat→Option Value
def Cx.data (c:Cx):Cx:=⟨c.w,c.fz,fun _=>none⟩
mutual
def Rep:PV→Cx→Value→Prop
 | .undef,_,_=>True
 | .int k n,_,v=>v= .int k n
 | .bool b,_,v=>v= .bool b
 | .str l,_,v=>v= .string ⟨l.toArray⟩
 | .nil,_,v=>v= .slice none 0 0
 | .seq es,c,v=> ∃ a cap,v= .slice a es.length cap∧es.length≤cap∧cap≤maxLen∧(es=[]∨ ∃ b o s,a=some ⟨b,o,none⟩∧c.fz b∧RepE es c.data s b o)
 | .ref id off,c,v=> ∃ u b,c.ρ id=some u∧baseOf u=some b∧v= .pointer (some ⟨b,off,none⟩)
 | .rref id i s off,c,v=> ∃ u b,c.ρ id=some u∧baseOf u=some b∧v= .pointer (some ⟨b,i * s+off,none⟩)
 | .eref cs,c,v=> ∃ b o,v= .pointer (some ⟨b,o,none⟩)∧c.fz b∧RepA cs c.data b o
 | .own id,c,v=>c.ρ id=some v
 | .agg cs,c,v=> ∃ vs,v= .agg vs∧RepL cs c vs.toList
 | .tup xs,c,v=> ∃ vs,v= .tuple vs∧RepL xs c vs.toList
 | .clo f caps,c,v=> ∃ vs,v= .func (.func f) #[] vs∧RepL caps c vs.toList
 | .raw u,_,v=>v=u
def RepL:List PV→Cx→List Value→Prop
 | [],_,vs=>vs=[]
 | u::us,c,vs=> ∃ x xs,vs=x::xs∧Rep u c x∧RepL us c xs
def RepA:List PV→Cx→Nat→Nat→Prop
 | [],_,_,_=>True
 | u::us,c,b,o=>(u.isCell=true∧ ∃ x,c.w.cell? ⟨b,o,none⟩=some x∧Rep u c x)∧RepA us c b (o+1)
def RepE:List (List PV)→Cx→Nat→Nat→Nat→Prop
 | [],_,_,_,_=>True
 | e::es,c,s,b,o=>e.length=s∧RepA e c b o∧RepE es c s b (o+s)
end
/-- A later context: what never changes has not changed; names keep their values. -/
structure Cx.Le (c c':Cx):Prop where
 fz: ∀ b,c.fz b→c'.fz b
 cell: ∀ b,c.fz b→ ∀ o,c'.w.cell? ⟨b,o,none⟩=c.w.cell? ⟨b,o,none⟩
 ρ: ∀ i v,c.ρ i=some v→c'.ρ i=some v
theorem Cx.Le.refl (c:Cx):c.Le c:=⟨fun _ h=>h,fun _ _ _=>rfl,fun _ _ h=>h⟩
theorem Cx.Le.trans {a b c:Cx} (h:a.Le b) (k:b.Le c):a.Le c :=
 ⟨fun x hx=>k.fz x (h.fz x hx),fun x hx o=>(k.cell x (h.fz x hx) o).trans (h.cell x hx o),fun i v hi=>k.ρ i v (h.ρ i v hi)⟩
theorem Cx.Le.data {c c':Cx} (h:c.Le c'):c.data.Le c'.data:=⟨h.fz,h.cell,fun _ _ hi=>by cases hi⟩
theorem Cx.data_le (c:Cx):c.data.Le c:=⟨fun _ h=>h,fun _ _ _=>rfl,fun _ _ hi=>by cases hi⟩
mutual
theorem Rep.mono:(u:PV)→ ∀ {c c':Cx} {v:Value},c.Le c'→Rep u c v→Rep u c' v
 | .undef,_,_,_,_,_=>by unfold Rep;trivial
 | .int k n,_,_,_,_,h=>by unfold Rep at *;exact h
 | .bool b,_,_,_,_,h=>by unfold Rep at *;exact h
 | .str l,_,_,_,_,h=>by unfold Rep at *;exact h
 | .nil,_,_,_,_,h=>by unfold Rep at *;exact h
 | .seq es,c,c',v,hl,h=>by
   unfold Rep at *
   obtain ⟨a,cap,e1,e2,e3,h⟩:=h
   refine ⟨a,cap,e1,e2,e3,h.imp id ?_⟩
   rintro ⟨b,o,s,e4,e5,h⟩
   exact ⟨b,o,s,e4,hl.fz b e5,RepE.mono es hl.data e5 h⟩
 | .ref id off,c,c',v,hl,h=>by
   unfold Rep at *
   obtain ⟨u,b,h1,h2⟩:=h
   exact ⟨u,b,hl.ρ _ _ h1,h2⟩
 | .rref id i s off,c,c',v,hl,h=>by
   unfold Rep at *
   obtain ⟨u,b,h1,h2⟩:=h
   exact ⟨u,b,hl.ρ _ _ h1,h2⟩
 | .eref cs,c,c',v,hl,h=>by
   unfold Rep at *
   obtain ⟨b,o,e1,e2,h⟩:=h
   exact ⟨b,o,e1,hl.fz b e2,RepA.mono cs hl.data e2 h⟩
 | .own id,c,c',v,hl,h=>by unfold Rep at *;exact hl.ρ _ _ h
 | .agg cs,c,c',v,hl,h=>by
   unfold Rep at *
   obtain ⟨vs,e,h⟩:=h
   exact ⟨vs,e,RepL.mono cs hl h⟩
 | .tup cs,c,c',v,hl,h=>by
   unfold Rep at *
   obtain ⟨vs,e,h⟩:=h
   exact ⟨vs,e,RepL.mono cs hl h⟩
 | .clo f cs,c,c',v,hl,h=>by
   unfold Rep at *
   obtain ⟨vs,e,h⟩:=h
   exact ⟨vs,e,RepL.mono cs hl h⟩
 | .raw u,_,_,_,_,h=>by unfold Rep at *;exact h
theorem RepL.mono:(us:List PV)→ ∀ {c c':Cx} {vs:List Value},c.Le c'→RepL us c vs→RepL us c' vs
 | [],_,_,_,_,h=>by unfold RepL at *;exact h
 | u::us,c,c',vs,hl,h=>by
   unfold RepL at *
   obtain ⟨x,xs,e,h1,h2⟩:=h
   exact ⟨x,xs,e,Rep.mono u hl h1,RepL.mono us hl h2⟩
theorem RepA.mono:(us:List PV)→ ∀ {c c':Cx} {b o:Nat},c.Le c'→c.fz b→RepA us c b o→RepA us c' b o
 | [],_,_,_,_,_,_,_=>by unfold RepA;trivial
 | u::us,c,c',b,o,hl,hb,h=>by
   unfold RepA at *
   obtain ⟨⟨h0,x,h1,h2⟩,h3⟩:=h
   exact ⟨⟨h0,x,(hl.cell b hb o).trans h1,Rep.mono u hl h2⟩,RepA.mono us hl hb h3⟩
theorem RepE.mono:(es:List (List PV))→ ∀ {c c':Cx} {s b o:Nat},c.Le c'→c.fz b→RepE es c s b o→RepE es c' s b o
 | [],_,_,_,_,_,_,_,_=>by unfold RepE;trivial
 | e::es,c,c',s,b,o,hl,hb,h=>by
   unfold RepE at *
   obtain ⟨h0,h1,h2⟩:=h
   exact ⟨h0,RepA.mono e hl hb h1,RepE.mono es hl hb h2⟩
end
/-- Names below n alone. -/
def Cx.cut (c:Cx) (n:Nat):Cx:=⟨c.w,c.fz,fun i=>if i<n then c.ρ i else none⟩
mutual
def PV.nmb (n:Nat):PV→Bool
 | .ref id _=>decide (id<n)
 | .rref id _ _ _=>decide (id<n)
 | .own id=>decide (id<n)
 | .agg cs=>nmbL n cs
 | .tup cs=>nmbL n cs
 | .clo _ cs=>nmbL n cs
 | _=>true
def nmbL (n:Nat):List PV→Bool
 | []=>true
 | u::us=>u.nmb n && nmbL n us
end
mutual
theorem Rep.cut:(u:PV)→ ∀ {c:Cx} {n:Nat} {v:Value},u.nmb n=true→Rep u c v→Rep u (c.cut n) v
 | .undef,_,_,_,_,_=>by unfold Rep;trivial
 | .int k n,_,_,_,_,h=>by unfold Rep at *;exact h
 | .bool b,_,_,_,_,h=>by unfold Rep at *;exact h
 | .str l,_,_,_,_,h=>by unfold Rep at *;exact h
 | .nil,_,_,_,_,h=>by unfold Rep at *;exact h
 | .seq es,c,n,v,hs,h=>by unfold Rep at *;exact h
 | .ref id off,c,n,v,hs,h=>by
   unfold Rep at *
   obtain ⟨u,b,h1,h2⟩:=h
   refine ⟨u,b,?_,h2⟩
   simp only [PV.nmb,decide_eq_true_eq] at hs
   simp only [Cx.cut,hs,if_true];exact h1
 | .rref id i s off,c,n,v,hs,h=>by
   unfold Rep at *
   obtain ⟨u,b,h1,h2⟩:=h
   refine ⟨u,b,?_,h2⟩
   simp only [PV.nmb,decide_eq_true_eq] at hs
   simp only [Cx.cut,hs,if_true];exact h1
 | .eref cs,c,n,v,hs,h=>by unfold Rep at *;exact h
 | .own id,c,n,v,hs,h=>by
   unfold Rep at *
   simp only [PV.nmb,decide_eq_true_eq] at hs
   simp only [Cx.cut,hs,if_true];exact h
 | .agg cs,c,n,v,hs,h=>by
   unfold Rep at *
   obtain ⟨vs,e,h⟩:=h
   exact ⟨vs,e,RepL.cut cs (by simpa [PV.nmb] using hs) h⟩
 | .tup cs,c,n,v,hs,h=>by
   unfold Rep at *
   obtain ⟨vs,e,h⟩:=h
   exact ⟨vs,e,RepL.cut cs (by simpa [PV.nmb] using hs) h⟩
 | .clo f cs,c,n,v,hs,h=>by
   unfold Rep at *
   obtain ⟨vs,e,h⟩:=h
   exact ⟨vs,e,RepL.cut cs (by simpa [PV.nmb] using hs) h⟩
 | .raw u,_,_,_,_,h=>by unfold Rep at *;exact h
theorem RepL.cut:(us:List PV)→ ∀ {c:Cx} {n:Nat} {vs:List Value},nmbL n us=true→RepL us c vs→RepL us (c.cut n) vs
 | [],_,_,_,_,h=>by unfold RepL at *;exact h
 | u::us,c,n,vs,hs,h=>by
   unfold RepL at *
   obtain ⟨x,xs,e,h1,h2⟩:=h
   simp only [nmbL,Bool.and_eq_true] at hs
   exact ⟨x,xs,e,Rep.cut u hs.1 h1,RepL.cut us hs.2 h2⟩
end
/-- Data: no names in it. -/
def PV.isData (u:PV):Bool:=u.nmb 0
theorem Rep.to_data {u:PV} {c:Cx} {v:Value} (hd:u.isData=true) (h:Rep u c v):Rep u c.data v:=by
 have:=Rep.cut u hd h
 have e:c.cut 0=c.data:=by simp [Cx.cut,Cx.data]
 rwa [e] at this
theorem RepL.to_data {us:List PV} {c:Cx} {vs:List Value} (hd:nmbL 0 us=true) (h:RepL us c vs):RepL us c.data vs:=by
 have:=RepL.cut us hd h
 have e:c.cut 0=c.data:=by simp [Cx.cut,Cx.data]
 rwa [e] at this
theorem Rep.of_data {u:PV} {c:Cx} {v:Value} (h:Rep u c.data v):Rep u c v:=Rep.mono u c.data_le h
theorem RepL.of_data {us:List PV} {c:Cx} {vs:List Value} (h:RepL us c.data vs):RepL us c vs:=RepL.mono us c.data_le h
theorem RepL.length: ∀ {us:List PV} {c:Cx} {vs:List Value},RepL us c vs→vs.length=us.length
 | [],_,_,h=>by unfold RepL at h;simp [h]
 | u::us,c,vs,h=>by
   unfold RepL at h
   obtain ⟨x,xs,rfl,_,h2⟩:=h
   simp [RepL.length h2]
theorem RepL.get: ∀ {us:List PV} {c:Cx} {vs:List Value},RepL us c vs→ ∀ (i:Nat) (u:PV),us[i]?=some u→ ∃ v,vs[i]?=some v∧Rep u c v
 | [],_,_,_,i,u,hi=>by simp at hi
 | u::us,c,vs,h,0,u',hi=>by
   unfold RepL at h
   obtain ⟨x,xs,rfl,h1,_⟩:=h
   obtain rfl:u=u':=by simpa using hi
   exact ⟨x,rfl,h1⟩
 | u::us,c,vs,h,i+1,u',hi=>by
   unfold RepL at h
   obtain ⟨x,xs,rfl,_,h2⟩:=h
   obtain ⟨v,h3,h4⟩:=RepL.get h2 i u' (by simpa using hi)
   exact ⟨v,by simpa using h3,h4⟩
theorem RepL.nil_iff {c:Cx} {vs:List Value}:RepL [] c vs↔vs=[]:=by unfold RepL;rfl
theorem RepL.cons_iff {u:PV} {us:List PV} {c:Cx} {vs:List Value}:RepL (u::us) c vs↔ ∃ x xs,vs=x::xs∧Rep u c x∧RepL us c xs:=by
 constructor
 · intro h;unfold RepL at h;exact h
 · intro h;unfold RepL;exact h
theorem RepL.append: ∀ {us ts:List PV} {c:Cx} {vs ws:List Value},RepL us c vs→RepL ts c ws→RepL (us++ts) c (vs++ws)
 | [],ts,c,vs,ws,h,k=>by rw [RepL.nil_iff] at h;subst h;simpa using k
 | u::us,ts,c,vs,ws,h,k=>by
   rw [RepL.cons_iff] at h
   obtain ⟨x,xs,rfl,h1,h2⟩:=h
   show RepL (u::(us++ts)) c (x::(xs++ws))
   rw [RepL.cons_iff]
   exact ⟨x,_,rfl,h1,RepL.append h2 k⟩
theorem RepL.take: ∀ {us:List PV} {c:Cx} {vs:List Value} (n:Nat),RepL us c vs→RepL (us.take n) c (vs.take n)
 | us,c,vs,0,_=>by simp [RepL.nil_iff]
 | [],c,vs,n+1,h=>by rw [RepL.nil_iff] at h;subst h;simp [RepL.nil_iff]
 | u::us,c,vs,n+1,h=>by
   rw [RepL.cons_iff] at h
   obtain ⟨x,xs,rfl,h1,h2⟩:=h
   simp only [List.take_succ_cons,RepL.cons_iff]
   exact ⟨x,_,rfl,h1,RepL.take n h2⟩
theorem RepL.drop: ∀ {us:List PV} {c:Cx} {vs:List Value} (n:Nat),RepL us c vs→RepL (us.drop n) c (vs.drop n)
 | us,c,vs,0,h=>by simpa using h
 | [],c,vs,n+1,h=>by rw [RepL.nil_iff] at h;subst h;simp [RepL.nil_iff]
 | u::us,c,vs,n+1,h=>by
   rw [RepL.cons_iff] at h
   obtain ⟨x,xs,rfl,h1,h2⟩:=h
   simpa using RepL.drop n h2
theorem RepL.set: ∀ {us:List PV} {c:Cx} {vs:List Value} (i:Nat) {u:PV} {v:Value},RepL us c vs→Rep u c v→RepL (us.set i u) c (vs.set i v)
 | [],c,vs,i,u,v,h,_=>by rw [RepL.nil_iff] at h;subst h;simp [RepL.nil_iff]
 | t::us,c,vs,0,u,v,h,k=>by
   rw [RepL.cons_iff] at h
   obtain ⟨x,xs,rfl,h1,h2⟩:=h
   simp only [List.set_cons_zero,RepL.cons_iff]
   exact ⟨v,xs,rfl,k,h2⟩
 | t::us,c,vs,i+1,u,v,h,k=>by
   rw [RepL.cons_iff] at h
   obtain ⟨x,xs,rfl,h1,h2⟩:=h
   simp only [List.set_cons_succ,RepL.cons_iff]
   exact ⟨x,_,rfl,h1,RepL.set i h2 k⟩
theorem RepA.get: ∀ {us:List PV} {c:Cx} {b o:Nat},RepA us c b o→ ∀ (i:Nat) (u:PV),us[i]?=some u→u.isCell=true∧ ∃ v,c.w.cell? ⟨b,o+i,none⟩=some v∧Rep u c v
 | [],_,_,_,_,i,u,hi=>by simp at hi
 | u::us,c,b,o,h,0,u',hi=>by
   unfold RepA at h
   obtain rfl:u=u':=by simpa using hi
   exact h.1
 | u::us,c,b,o,h,i+1,u',hi=>by
   unfold RepA at h
   have:=RepA.get h.2 i u' (by simpa using hi)
   rwa [show o+1+i=o+(i+1) from by omega] at this
theorem RepA.cons_iff {u:PV} {us:List PV} {c:Cx} {b o:Nat}:RepA (u::us) c b o↔(u.isCell=true∧ ∃ x,c.w.cell? ⟨b,o,none⟩=some x∧Rep u c x)∧RepA us c b (o+1):=by
 constructor
 · intro h;unfold RepA at h;exact h
 · intro h;unfold RepA;exact h
theorem RepA.nil {c:Cx} {b o:Nat}:RepA [] c b o:=by unfold RepA;trivial
theorem RepA.drop: ∀ {us:List PV} {c:Cx} {b o:Nat} (n:Nat),RepA us c b o→RepA (us.drop n) c b (o+n)
 | us,c,b,o,0,h=>by simpa using h
 | [],c,b,o,n+1,_=>by simpa using RepA.nil
 | u::us,c,b,o,n+1,h=>by
   rw [RepA.cons_iff] at h
   have:=RepA.drop n h.2
   rw [show o+1+n=o+(n+1) from by omega] at this
   simpa using this
theorem RepA.take: ∀ {us:List PV} {c:Cx} {b o:Nat} (n:Nat),RepA us c b o→RepA (us.take n) c b o
 | us,c,b,o,0,h=>by simpa using RepA.nil
 | [],c,b,o,n+1,_=>by simpa using RepA.nil
 | u::us,c,b,o,n+1,h=>by
   rw [RepA.cons_iff] at h
   simp only [List.take_succ_cons,RepA.cons_iff]
   exact ⟨h.1,RepA.take n h.2⟩
theorem RepA.append: ∀ {us ts:List PV} {c:Cx} {b o:Nat},RepA (us++ts) c b o↔RepA us c b o∧RepA ts c b (o+us.length)
 | [],ts,c,b,o=>by simp [RepA.nil]
 | u::us,ts,c,b,o=>by
   show RepA (u::(us++ts)) c b o↔_
   rw [RepA.cons_iff,RepA.cons_iff,RepA.append,show o+(u::us).length=o+1+us.length from by simp;omega]
   constructor
   · rintro ⟨h1,h2,h3⟩;exact ⟨⟨h1,h2⟩,h3⟩
   · rintro ⟨⟨h1,h2⟩,h3⟩;exact ⟨h1,h2,h3⟩
/-- The values in a row of cells. -/
theorem RepA.vals: ∀ {us:List PV} {c:Cx} {b o:Nat},RepA us c b o→ ∃ vs:List Value,RepL us c vs∧(∀ j v,vs[j]?=some v→c.w.cell? ⟨b,o+j,none⟩=some v)∧ ∀ u ∈ us,u.isCell=true
 | [],_,_,_,_=>⟨[],by simp [RepL.nil_iff],by simp,by simp⟩
 | u::us,c,b,o,h=>by
   rw [RepA.cons_iff] at h
   obtain ⟨⟨h0,x,hx,hr⟩,h2⟩:=h
   obtain ⟨vs,h3,h4,h5⟩:=RepA.vals h2
   refine ⟨x::vs,RepL.cons_iff.2 ⟨x,vs,rfl,hr,h3⟩,?_,?_⟩
   · intro j v hj
     cases j with
     | zero => obtain rfl:x=v:=by simpa using hj
               exact hx
     | succ j =>
       rw [show o+(j+1)=o+1+j from by omega]
       exact h4 j v (by simpa using hj)
   · intro t ht
     rcases List.mem_cons.1 ht with rfl|ht
     · exact h0
     · exact h5 t ht
theorem RepA.of_vals: ∀ {us:List PV} {c:Cx} {b o:Nat} {vs:List Value},RepL us c vs→(∀ j v,vs[j]?=some v→c.w.cell? ⟨b,o+j,none⟩=some v)→(∀ u ∈ us,u.isCell=true)→RepA us c b o
 | [],_,_,_,_,_,_,_=>RepA.nil
 | u::us,c,b,o,vs,h,hc,hi=>by
   rw [RepL.cons_iff] at h
   obtain ⟨x,xs,rfl,h1,h2⟩:=h
   refine RepA.cons_iff.2 ⟨⟨hi u (by simp),x,hc 0 x rfl,h1⟩,RepA.of_vals h2 (fun j v hj=>?_) fun t ht=>hi t (by simp [ht])⟩
   rw [show o+1+j=o+(j+1) from by omega]
   exact hc (j+1) v (by simpa using hj)
theorem RepE.cons_iff {e:List PV} {es:List (List PV)} {c:Cx} {s b o:Nat}:RepE (e::es) c s b o↔e.length=s∧RepA e c b o∧RepE es c s b (o+s):=by
 constructor
 · intro h;unfold RepE at h;exact h
 · intro h;unfold RepE;exact h
theorem RepE.nil {c:Cx} {s b o:Nat}:RepE [] c s b o:=by unfold RepE;trivial
theorem RepE.get: ∀ {es:List (List PV)} {c:Cx} {s b o:Nat},RepE es c s b o→ ∀ (i:Nat) (e:List PV),es[i]?=some e→e.length=s∧RepA e c b (o+i * s)
 | [],_,_,_,_,_,i,e,hi=>by simp at hi
 | e::es,c,s,b,o,h,0,e',hi=>by
   rw [RepE.cons_iff] at h
   obtain rfl:e=e':=by simpa using hi
   exact ⟨h.1,by simpa using h.2.1⟩
 | e::es,c,s,b,o,h,i+1,e',hi=>by
   rw [RepE.cons_iff] at h
   obtain ⟨h1,h2⟩:=RepE.get h.2.2 i e' (by simpa using hi)
   refine ⟨h1,?_⟩
   rwa [show o+s+i * s=o+(i+1) * s from by rw [Nat.add_mul];omega] at h2
theorem RepE.drop: ∀ {es:List (List PV)} {c:Cx} {s b o:Nat} (n:Nat),RepE es c s b o→RepE (es.drop n) c s b (o+n * s)
 | es,c,s,b,o,0,h=>by simpa using h
 | [],c,s,b,o,n+1,_=>by simpa using RepE.nil
 | e::es,c,s,b,o,n+1,h=>by
   rw [RepE.cons_iff] at h
   have:=RepE.drop n h.2.2
   rw [show o+s+n * s=o+(n+1) * s from by rw [Nat.add_mul];omega] at this
   simpa using this
theorem RepE.take: ∀ {es:List (List PV)} {c:Cx} {s b o:Nat} (n:Nat),RepE es c s b o→RepE (es.take n) c s b o
 | es,c,s,b,o,0,h=>by simpa using RepE.nil
 | [],c,s,b,o,n+1,_=>by simpa using RepE.nil
 | e::es,c,s,b,o,n+1,h=>by
   rw [RepE.cons_iff] at h
   simp only [List.take_succ_cons,RepE.cons_iff]
   exact ⟨h.1,h.2.1,RepE.take n h.2.2⟩
/-- As a row of cells. -/
theorem RepE.flat: ∀ {es:List (List PV)} {c:Cx} {s b o:Nat},RepE es c s b o↔(∀ e ∈ es,e.length=s)∧RepA es.flatten c b o
 | [],c,s,b,o=>by simp [RepE.nil,RepA.nil]
 | e::es,c,s,b,o=>by
   rw [RepE.cons_iff,RepE.flat,List.flatten_cons,RepA.append]
   constructor
   · rintro ⟨h1,h2,h3,h4⟩
     subst h1
     exact ⟨fun x hx=>(List.mem_cons.1 hx).elim (fun e=>by rw [e]) (h3 x),h2,h4⟩
   · rintro ⟨h1,h2,h3⟩
     have he:=h1 e (by simp)
     subst he
     exact ⟨rfl,h2,fun x hx=>h1 x (by simp [hx]),h3⟩
theorem flatten_length {α:Type} {s:Nat}: ∀ {es:List (List α)},(∀ e ∈ es,e.length=s)→es.flatten.length=es.length * s
 | [],_=>by simp
 | e::es,h=>by
   rw [List.flatten_cons,List.length_append,h e (by simp),flatten_length (fun x hx=>h x (by simp [hx])),List.length_cons,Nat.add_mul]
   omega
end Go.Proofs.YtnbjogilidfkdaaGreat

/- Abstract memory: named blocks; what it is for a world to hold them; how they are kept. No program. -/
namespace Go.Proofs.YtnbjogilidfkdaaGreat
set_option maxRecDepth 100000
set_option linter.unusedVariables false
set_option linter.unusedSimpArgs false
open Go.RowKit
/-- Memory of one's own, of whatever make: what it is for a world to hold it at a value, with which blocks. -/
structure OwnP where
 R:List PV→World→Value→(Nat→Prop)→Prop
 mono: ∀ {d:List PV} {w w':World} {v:Value} {S:Nat→Prop},R d w v S→(∀ b,S b→w'.heap[b]?=w.heap[b]?)→R d w' v S
 lt: ∀ {d:List PV} {w:World} {v:Value} {S:Nat→Prop} {b:Nat},R d w v S→S b→b<w.heap.size
 det: ∀ {d:List PV} {w:World} {v:Value} {S S':Nat→Prop},R d w v S→R d w v S'→S=S'
inductive MB where
 | box (cs:List PV)
 | row (e:TypeId) (s:Nat) (es:List (List PV))
 | fro (es:List (List PV))
 | gen (p:OwnP) (d:List PV)
def MB.nmb (n:Nat):MB→Bool
 | .box cs=>nmbL n cs
 | _=>true
/-- The cells of a row. -/
def cellsOk (es:List (List PV)) (s:Nat):Prop:=(∀ e ∈ es,e.length=s)∧ ∀ u ∈ es.flatten,u.isCell=true
/-- The block with this name holds mb; S: the blocks that are its own. -/
def MRep (c:Cx) (i:Nat) (S:Nat→Prop):MB→Prop
 | .box cs=> ∃ b t vs,c.ρ i=some (.pointer (some ⟨b,0,none⟩))∧Blk c.w b t vs∧RepL cs c vs.toList∧S=(· =b)
 | .row e s es=> ∃ v vs,c.ρ i=some v∧c.w.ownsRow 0 e s v es.length vs∧RepL es.flatten c.data vs∧cellsOk es s∧S=fun b=>v.ownBlock=some b
 | .fro es=> ∃ v,c.ρ i=some v∧Rep (.seq es) c v∧S=fun _=>False
 | .gen p d=> ∃ v,c.ρ i=some v∧p.R d c.w v S
theorem ownsRow_block {w w':World} {e:TypeId} {s n:Nat} {v:Value} {xs:List Value} (h:w.ownsRow 0 e s v n xs)
 (hb: ∀ b,v.ownBlock=some b→w'.heap[b]?=w.heap[b]?):w'.ownsRow 0 e s v n xs:=by
 obtain ⟨h1,h2⟩:=h
 refine ⟨h1,?_⟩
 rcases h2 with h2|⟨g,cap,cur,hv,hg,hh,r⟩
 · exact .inl h2
 · refine .inr ⟨g,cap,cur,hv,hg,?_,r⟩
   rw [hb g (by subst hv;rfl)];exact hh
theorem MRep.mono {c c':Cx} {i:Nat} {S:Nat→Prop}: ∀ {mb:MB},c.Le c'→(∀ b,S b→c'.w.heap[b]?=c.w.heap[b]?)→MRep c i S mb→MRep c' i S mb
 | .box cs,hl,hb,h=>by
   obtain ⟨b,t,vs,h1,h2,h3,rfl⟩:=h
   exact ⟨b,t,vs,hl.ρ _ _ h1,(hb b rfl).trans h2,RepL.mono cs hl h3,rfl⟩
 | .row e s es,hl,hb,h=>by
   obtain ⟨v,vs,h1,h2,h3,h4,rfl⟩:=h
   exact ⟨v,vs,hl.ρ _ _ h1,ownsRow_block h2 hb,RepL.mono _ hl.data h3,h4,rfl⟩
 | .fro es,hl,hb,h=>by
   obtain ⟨v,h1,h2,rfl⟩:=h
   exact ⟨v,hl.ρ _ _ h1,Rep.mono _ hl h2,rfl⟩
 | .gen p _,hl,hb,h=>by
   obtain ⟨v,h1,h2⟩:=h
   exact ⟨v,hl.ρ _ _ h1,p.mono h2 hb⟩
theorem MRep.cut {c:Cx} {i n:Nat} {S:Nat→Prop} (hi:i<n): ∀ {mb:MB},mb.nmb n=true→MRep c i S mb→MRep (c.cut n) i S mb
 | .box cs,hs,h=>by
   obtain ⟨b,t,vs,h1,h2,h3,rfl⟩:=h
   exact ⟨b,t,vs,by simp only [Cx.cut,hi,if_true];exact h1,h2,RepL.cut cs (by simpa [MB.nmb] using hs) h3,rfl⟩
 | .row e s es,hs,h=>by
   obtain ⟨v,vs,h1,h2,h3,h4,rfl⟩:=h
   exact ⟨v,vs,by simp only [Cx.cut,hi,if_true];exact h1,h2,h3,h4,rfl⟩
 | .fro es,hs,h=>by
   obtain ⟨v,h1,h2,rfl⟩:=h
   exact ⟨v,by simp only [Cx.cut,hi,if_true];exact h1,Rep.cut _ rfl h2,rfl⟩
 | .gen p _,hs,h=>by
   obtain ⟨v,h1,h2⟩:=h
   exact ⟨v,by simp only [Cx.cut,hi,if_true];exact h1,h2⟩
theorem MRep.ρ {c:Cx} {i:Nat} {S:Nat→Prop}: ∀ {mb:MB},MRep c i S mb→ ∃ v,c.ρ i=some v
 | .box _,⟨b,_,_,h,_⟩=>⟨_,h⟩
 | .row ..,⟨v,_,h,_⟩=>⟨v,h⟩
 | .fro _,⟨v,h,_⟩=>⟨v,h⟩
 | .gen _ _,⟨v,h,_⟩=>⟨v,h⟩
theorem ownBlock_lt {w:World} {e:TypeId} {s n:Nat} {v:Value} {xs:List Value} {b:Nat} (h:w.ownsRow 0 e s v n xs) (hb:v.ownBlock=some b):b<w.heap.size:=(h.lt b hb).2
theorem MRep.lt {c:Cx} {i:Nat} {S:Nat→Prop} {b:Nat} (hb:S b): ∀ {mb:MB},MRep c i S mb→b<c.w.heap.size
 | .box _,⟨b',t,vs,h1,h2,h3,e⟩=>by subst e;obtain rfl:b=b':=hb;exact h2.lt
 | .row ..,⟨v,vs,h1,h2,h3,h4,e⟩=>by subst e;exact ownBlock_lt h2 hb
 | .fro _,⟨v,h1,h2,e⟩=>by subst e;exact hb.elim
 | .gen p _,⟨v,h1,h2⟩=>p.lt h2 hb
abbrev Mem:=Nat→Option MB
def upd {α:Type} (f:Nat→α) (i:Nat) (v:α):Nat→α:=fun j=>if j=i then v else f j
theorem upd_same {α:Type} (f:Nat→α) (i:Nat) (v:α):upd f i v i=v:=by simp [upd]
theorem upd_other {α:Type} (f:Nat→α) {i j:Nat} (v:α) (h:j≠i):upd f i v j=f j:=by simp [upd,h]
/-- Package-level variables of the library that are read: each holds a number, whatever. -/
def globs:List Nat:=[0]
structure FzOk (c:Cx):Prop where
 lt: ∀ b,c.fz b→b<c.w.heap.size
 glob: ∀ g ∈ globs,c.fz g∧ ∃ m:Int,c.w.cell? ⟨g,0,none⟩=some (.int .i64 m)
theorem FzOk.mono {c c':Cx} (h:FzOk c) (hle:c.Le c') (hlt: ∀ b,c'.fz b→b<c'.w.heap.size):FzOk c' :=
 ⟨hlt,fun g hg=>⟨hle.fz g (h.glob g hg).1,by rw [hle.cell g (h.glob g hg).1];exact (h.glob g hg).2⟩⟩
/-- The world holds the named blocks, each its own, none of them among those that never change. -/
def InvM (c:Cx) (mem:Mem):Prop :=
 FzOk c ∧
 ∃ S:Nat→Nat→Prop,(∀ i mb,mem i=some mb→MRep c i (S i) mb)∧(∀ i j b,mem i≠none→mem j≠none→i≠j→S i b→ ¬ S j b)∧ ∀ i b,mem i≠none→S i b→ ¬ c.fz b
/-- What the caller keeps: these blocks are as they were; the streams too; no block has gone; and names below n keep their values, frozen blocks stay. -/
structure Fr (c c':Cx) (mine:Nat→Prop) (n:Nat):Prop where
 os:c'.w.os=c.w.os
 tape:c'.w.tape=c.w.tape
 output:c'.w.output=c.w.output
 size:c.w.heap.size≤c'.w.heap.size
 block: ∀ b,b<c.w.heap.size→ ¬ mine b→c'.w.heap[b]?=c.w.heap[b]?
 fz: ∀ b,c.fz b→c'.fz b
 fzNew: ∀ b,c'.fz b→c.fz b∨mine b∨c.w.heap.size≤b
 ρ: ∀ i,i<n→c'.ρ i=c.ρ i
theorem cell_of_block {w w':World} {b:Nat} (h:w'.heap[b]?=w.heap[b]?) (o:Nat):w'.cell? ⟨b,o,none⟩=w.cell? ⟨b,o,none⟩:=by
 simp [World.cell?,h]
/-- The blocks of the live names. -/
def Mine (c:Cx) (mem:Mem) (b:Nat):Prop:= ∃ i S mb,mem i=some mb∧MRep c i S mb∧S b
theorem MRep.det {c:Cx} {i:Nat} {S S':Nat→Prop}: ∀ {mb:MB},MRep c i S mb→MRep c i S' mb→S=S'
 | .box _,⟨b,t,vs,h1,h2,h3,e⟩,⟨b',t',vs',h1',h2',h3',e'⟩=>by
   rw [h1] at h1';injection h1' with h1';injection h1' with h1';injection h1' with h1';injection h1' with h1'
   subst e e' h1';rfl
 | .row ..,⟨v,vs,h1,h2,h3,h4,e⟩,⟨v',vs',h1',h2',h3',h4',e'⟩=>by
   rw [h1] at h1';injection h1' with h1';subst e e' h1';rfl
 | .fro _,⟨v,h1,h2,e⟩,⟨v',h1',h2',e'⟩=>by subst e e';rfl
 | .gen p _,⟨v,h1,h2⟩,⟨v',h1',h2'⟩=>by
   rw [h1] at h1';injection h1' with h1';subst h1';exact p.det h2 h2'
/-- A frame around the live names' blocks keeps what never changes. -/
theorem Fr.le {c c':Cx} {mine:Nat→Prop} {n:Nat} (h:Fr c c' mine n) (hf: ∀ b,c.fz b→b<c.w.heap.size∧ ¬ mine b) (hρ: ∀ i v,c.ρ i=some v→i<n):c.Le c' :=
 ⟨h.fz,fun b hb o=>cell_of_block (h.block b (hf b hb).1 (hf b hb).2) o,fun i v hi=>by rw [h.ρ i (hρ i v hi)];exact hi⟩
theorem Fr.refl (c:Cx) (mine:Nat→Prop) (n:Nat):Fr c c mine n :=
 ⟨rfl,rfl,rfl,Nat.le_refl _,fun _ _ _=>rfl,fun _ h=>h,fun _ h=> .inl h,fun _ _=>rfl⟩
theorem heap_alloc_lt (w:World) (o:Obj) {b:Nat} (h:b<w.heap.size):(w.alloc o).heap[b]?=w.heap[b]?:=Below.heap_alloc w o b h
/-- One named block is new, or changed, or takes the place of an old one. -/
theorem InvM.put {c c':Cx} {mem mem':Mem} {j:Nat} {mb':MB} {S':Nat→Prop} (h:InvM c mem) (old:Option Nat)
 (hfz:c'.fz=c.fz) (hρ: ∀ k,k≠j→c'.ρ k=c.ρ k) (hρj:c.ρ j=none∨c'.ρ j=c.ρ j)
 (hmj:mem' j=some mb') (hmk: ∀ k,k≠j→mem' k=mem k∨mem' k=none) (hold: ∀ i,old=some i→mem i≠none∧(i=j∨mem' i=none))
 (hj:old=some j∨mem j=none) (hsz:c.w.heap.size≤c'.w.heap.size)
 (hw: ∀ b,b<c.w.heap.size→(∀ i mb S,old=some i→mem i=some mb→MRep c i S mb→ ¬ S b)→c'.w.heap[b]?=c.w.heap[b]?)
 (hr:c.Le c'→MRep c' j S' mb')
 (hS: ∀ b,S' b→(∃ i mb S,old=some i∧mem i=some mb∧MRep c i S mb∧S b)∨c.w.heap.size≤b) :
 InvM c' mem'∧c.Le c'∧ ∀ b,Mine c' mem' b→Mine c mem b∨c.w.heap.size≤b:=by
 obtain ⟨hf,S,h1,h2,h3⟩:=h
 have hfree: ∀ b,(∀ i,old=some i→ ¬ S i b)→ ∀ i mb S,old=some i→mem i=some mb→MRep c i S mb→ ¬ S b:=by
  intro b hb i mb S' hi hm hr' hs
  have e:=MRep.det hr' (h1 i mb hm)
  subst e
  exact hb i hi hs
 have hle:c.Le c':=by
  refine ⟨fun b hb=>by rw [hfz];exact hb,fun b hb o=>cell_of_block (hw b (hf.lt b hb) (hfree b fun i hi hs=>h3 i b (hold i hi).1 hs hb)) o,fun k v hk=>?_⟩
  by_cases e:k=j
  · subst e
    rcases hρj with h|h
    · rw [h] at hk;cases hk
    · rw [h];exact hk
  · rw [hρ k e];exact hk
 have hS': ∀ b,S' b→(∃ i,old=some i∧mem i≠none∧S i b)∨c.w.heap.size≤b:=by
  intro b hb
  rcases hS b hb with ⟨i,mb,T,hi,hm,ht,hb⟩|h
  · have e:=MRep.det ht (h1 i mb hm)
    subst e
    exact .inl ⟨i,hi,by simp [hm],hb⟩
  · exact .inr h
 have hcase: ∀ k,mem' k≠none→k≠j→mem k≠none∧mem' k=mem k∧ ∀ i,old=some i→k≠i:=by
  intro k hk hkj
  rcases hmk k hkj with h|h
  · refine ⟨by rw [← h];exact hk,h,fun i hi e=>?_⟩
    subst e
    rcases (hold k hi).2 with e|e
    · exact hkj e
    · exact hk e
  · exact absurd h hk
 have hkeep: ∀ k mb,mem' k=some mb→k≠j→MRep c' k (S k) mb:=by
  intro k mb hk hkj
  obtain ⟨e1,e2,e3⟩:=hcase k (by simp [hk]) hkj
  rw [e2] at hk
  exact MRep.mono hle (fun b hb=>hw b ((h1 k mb hk).lt hb) (hfree b fun i hi hs=>h2 k i b e1 (hold i hi).1 (e3 i hi) hb hs)) (h1 k mb hk)
 have hinv:InvM c' mem':=by
  refine ⟨hf.mono hle fun b hb=>Nat.lt_of_lt_of_le (hf.lt b (by rw [hfz] at hb;exact hb)) hsz,fun k=>if k=j then S' else S k,?_,?_,?_⟩
  · intro k mb hk
    by_cases e:k=j
    · subst e
      rw [hmj] at hk
      obtain rfl:mb'=mb:=by simpa using hk
      simp only [if_true]
      exact hr hle
    · simp only [if_neg e]
      exact hkeep k mb hk e
  · intro k l b hk hl hne hsk hsl
    by_cases ek:k=j
    · have el:l≠j:=fun e=>hne (ek.trans e.symm)
      obtain ⟨f1,f2,f3⟩:=hcase l hl el
      simp only [if_pos ek] at hsk
      simp only [if_neg el] at hsl
      rcases hS' b hsk with ⟨i,hi,hm,hb⟩|hb
      · exact h2 l i b f1 hm (f3 i hi) hsl hb
      · obtain ⟨mb,hmb⟩:=Option.ne_none_iff_exists'.1 f1
        have:=(h1 l mb hmb).lt hsl
        omega
    · obtain ⟨f1,f2,f3⟩:=hcase k hk ek
      simp only [if_neg ek] at hsk
      by_cases el:l=j
      · simp only [if_pos el] at hsl
        rcases hS' b hsl with ⟨i,hi,hm,hb⟩|hb
        · exact h2 k i b f1 hm (f3 i hi) hsk hb
        · obtain ⟨mb,hmb⟩:=Option.ne_none_iff_exists'.1 f1
          have:=(h1 k mb hmb).lt hsk
          omega
      · obtain ⟨g1,g2,g3⟩:=hcase l hl el
        simp only [if_neg el] at hsl
        exact h2 k l b f1 g1 hne hsk hsl
  · intro k b hk hs hb
    rw [hfz] at hb
    by_cases ek:k=j
    · simp only [if_pos ek] at hs
      rcases hS' b hs with ⟨i,hi,hm,hs⟩|hs
      · exact h3 i b hm hs hb
      · have:=hf.lt b hb
        omega
    · obtain ⟨f1,f2,f3⟩:=hcase k hk ek
      simp only [if_neg ek] at hs
      exact h3 k b f1 hs hb
 refine ⟨hinv,hle,?_⟩
 rintro b ⟨k,T,mb,hk,hT,hb⟩
 by_cases ek:k=j
 · subst ek
   rw [hmj] at hk
   obtain rfl:mb'=mb:=by simpa using hk
   have e:=MRep.det hT (hr hle)
   subst e
   rcases hS' b hb with ⟨i,hi,hm,hs⟩|hs
   · obtain ⟨m,hm⟩:=Option.ne_none_iff_exists'.1 hm
     exact .inl ⟨i,_,m,hm,h1 i m hm,hs⟩
   · exact .inr hs
 · have e:=MRep.det hT (hkeep k mb hk ek)
   subst e
   obtain ⟨f1,f2,f3⟩:=hcase k (by simp [hk]) ek
   rw [f2] at hk
   exact .inl ⟨k,_,mb,hk,h1 k mb hk,hb⟩
/-- A step that changes no live block: new blocks, draws, and more that never changes (none of it live). -/
theorem InvM.later {c c':Cx} {mem:Mem} (h:InvM c mem) (hle:c.Le c') (hsz:c.w.heap.size≤c'.w.heap.size) (hb: ∀ b,b<c.w.heap.size→c'.w.heap[b]?=c.w.heap[b]?)
 (hf: ∀ b,c'.fz b→c.fz b∨c.w.heap.size≤b∧b<c'.w.heap.size):InvM c' mem∧ ∀ b,Mine c' mem b→Mine c mem b:=by
 obtain ⟨hf0,S,h1,h2,h3⟩:=h
 refine ⟨?_,?_⟩
 rotate_left
 · rintro b ⟨k,T,mb,hk,hT,hb'⟩
   have e:=MRep.det hT (MRep.mono hle (fun b hs=>hb b ((h1 k mb hk).lt hs)) (h1 k mb hk))
   subst e
   exact ⟨k,_,mb,hk,h1 k mb hk,hb'⟩
 refine ⟨hf0.mono hle fun b hb'=>?_,S,fun i mb hm=>MRep.mono hle (fun b hs=>hb b ((h1 i mb hm).lt hs)) (h1 i mb hm),h2,fun i b hm hs hfb=>?_⟩
 · rcases hf b hb' with h|h
   · exact Nat.lt_of_lt_of_le (hf0.lt b h) hsz
   · exact h.2
 · rcases hf b hfb with h|h
   · exact h3 i b hm hs h
   · obtain ⟨mb,hmb⟩:=Option.ne_none_iff_exists'.1 hm
     have:=(h1 i mb hmb).lt hs
     omega
/-- A row of its own becomes one that never changes. -/
theorem InvM.freeze {c:Cx} {mem:Mem} {i:Nat} {e:TypeId} {s:Nat} {es:List (List PV)} (h:InvM c mem) (hm:mem i=some (.row e s es)) :
 ∃ v,c.ρ i=some v∧InvM ⟨c.w,fun b=>c.fz b∨v.ownBlock=some b,c.ρ⟩ (upd mem i (some (.fro es)))∧c.Le ⟨c.w,fun b=>c.fz b∨v.ownBlock=some b,c.ρ⟩ ∧
   Rep (.seq es) ⟨c.w,fun b=>c.fz b∨v.ownBlock=some b,c.ρ⟩ v∧(∀ b,v.ownBlock=some b→Mine c mem b) ∧
   ∀ b,Mine ⟨c.w,fun b=>c.fz b∨v.ownBlock=some b,c.ρ⟩ (upd mem i (some (.fro es))) b→Mine c mem b:=by
 obtain ⟨hf,S,h1,h2,h3⟩:=h
 obtain ⟨v,vs,hv,ho,hr,hc,hS⟩:=h1 i _ hm
 have hmi:mem i≠none:=by simp [hm]
 have hle:c.Le ⟨c.w,fun b=>c.fz b∨v.ownBlock=some b,c.ρ⟩:=⟨fun _ h=> .inl h,fun _ _ _=>rfl,fun _ _ h=>h⟩
 have hseq:Rep (.seq es) ⟨c.w,fun b=>c.fz b∨v.ownBlock=some b,c.ρ⟩ v:=by
  unfold Rep
  obtain ⟨hl,ho⟩:=ho
  rcases ho with ⟨rfl,h0⟩|⟨g,cap,cur,rfl,_,hh,hn,hcap,hcs,htk⟩
  · have:es=[]:=List.eq_nil_of_length_eq_zero h0
    subst this
    exact ⟨none,0,rfl,Nat.le_refl _,by simp [maxLen],.inl rfl⟩
  · refine ⟨some ⟨g,0,none⟩,cap,rfl,hn,hcap,?_⟩
    by_cases he:es=[]
    · exact .inl he
    · refine .inr ⟨g,0,s,rfl,.inr rfl,?_⟩
      rw [RepE.flat]
      refine ⟨hc.1,RepA.of_vals (c:=Cx.data ⟨c.w,fun b=>c.fz b∨_,c.ρ⟩) (RepL.mono _ hle.data hr) (fun j u hj=>?_) hc.2⟩
      show c.w.cell? ⟨g,0+j,none⟩=some u
      rw [Nat.zero_add,cell_of_row c.w g j cur e (0,0) hh]
      rw [← htk,List.getElem?_take] at hj
      split at hj
      · simpa using hj
      · cases hj
 refine ⟨v,hv,⟨⟨?_,fun j=>if j=i then (fun _=>False) else S j,?_,?_,?_⟩,hle,hseq,fun b hb=>⟨i,S i,_,hm,h1 i _ hm,by rw [hS];exact hb⟩,?_⟩⟩
 rotate_left 4
 · rintro b ⟨k,T,mb,hk,hT,hb'⟩
   by_cases ek:k=i
   · subst ek
     rw [upd_same] at hk
     obtain rfl:MB.fro es=mb:=by simpa using hk
     obtain ⟨_,_,_,e⟩:=hT
     subst e
     exact hb'.elim
   · rw [upd_other _ _ ek] at hk
     have e:=MRep.det hT (MRep.mono hle (fun _ _=>rfl) (h1 k mb hk))
     subst e
     exact ⟨k,_,mb,hk,h1 k mb hk,hb'⟩
 · refine hf.mono hle ?_
   rintro b (hb|hb)
   · exact hf.lt b hb
   · exact ownBlock_lt ho hb
 · intro j mb hj
   by_cases ej:j=i
   · subst ej
     rw [upd_same] at hj
     obtain rfl:MB.fro es=mb:=by simpa using hj
     simp only [if_true]
     exact ⟨v,hv,hseq,rfl⟩
   · rw [upd_other _ _ ej] at hj
     simp only [if_neg ej]
     exact MRep.mono hle (fun _ _=>rfl) (h1 j mb hj)
 · intro j k b hj hk hne hsj hsk
   by_cases ej:j=i
   · simp only [if_pos ej] at hsj
   · rw [upd_other _ _ ej] at hj
     simp only [if_neg ej] at hsj
     by_cases ek:k=i
     · simp only [if_pos ek] at hsk
     · rw [upd_other _ _ ek] at hk
       simp only [if_neg ek] at hsk
       exact h2 j k b hj hk hne hsj hsk
 · intro j b hj hs hfb
   by_cases ej:j=i
   · simp only [if_pos ej] at hs
   · rw [upd_other _ _ ej] at hj
     simp only [if_neg ej] at hs
     rcases hfb with hfb|hfb
     · exact h3 j b hj hs hfb
     · exact h2 j i b hj hmi ej hs (by rw [hS];exact hfb)
end Go.Proofs.YtnbjogilidfkdaaGreat
