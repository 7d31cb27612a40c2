/- Abstract steps: a step from one memory to a later one; freezing; what an operation does with abstract values. -/
import Derived.Test.YtnbjogilidfkdaaGreatVM2
import Derived.Calls
import Derived.IntWalk

namespace Go.Proofs.YtnbjogilidfkdaaGreat
set_option maxRecDepth 100000
set_option linter.unusedVariables false
set_option linter.unusedSimpArgs false
open Go.RowKit
/-- Names from n on are not taken; a name stands for a value of one cell. -/
def Names (c:Cx) (n:Nat):Prop:=(∀ i,n≤i→c.ρ i=none)∧ ∀ i v,c.ρ i=some v→v.oneCell'=true
/-- One step: from a context with its memory to a later one. -/
structure Step (c:Cx) (mem:Mem) (n:Nat) (c':Cx) (mem':Mem) (n':Nat):Prop where
 inv:InvM c' mem'
 le:c.Le c'
 os:c'.w.os=c.w.os
 tape:c'.w.tape=c.w.tape
 output:c'.w.output=c.w.output
 size:c.w.heap.size≤c'.w.heap.size
 block: ∀ b,b<c.w.heap.size→ ¬ Mine c mem b→c'.w.heap[b]?=c.w.heap[b]?
 mine: ∀ b,Mine c' mem' b→Mine c mem b∨c.w.heap.size≤b
 fzNew: ∀ b,c'.fz b→c.fz b∨Mine c mem b∨c.w.heap.size≤b
 nx:n≤n'
 ρ: ∀ i,i<n→c'.ρ i=c.ρ i
 free:Names c' n'
theorem Step.refl {c:Cx} {mem:Mem} {nx:Nat} (h:InvM c mem) (hn:Names c nx):Step c mem nx c mem nx :=
 ⟨h,.refl c,rfl,rfl,rfl,Nat.le_refl _,fun _ _ _=>rfl,fun _ h=> .inl h,fun _ h=> .inl h,Nat.le_refl _,fun _ _=>rfl,hn⟩
theorem Step.trans {c1 c2 c3:Cx} {m1 m2 m3:Mem} {n1 n2 n3:Nat} (h:Step c1 m1 n1 c2 m2 n2) (k:Step c2 m2 n2 c3 m3 n3):Step c1 m1 n1 c3 m3 n3 where
 inv:=k.inv
 le:=h.le.trans k.le
 os:=k.os.trans h.os
 tape:=k.tape.trans h.tape
 output:=k.output.trans h.output
 size:=Nat.le_trans h.size k.size
 block:=fun b hb hm=>(k.block b (Nat.lt_of_lt_of_le hb h.size) (fun hm2=>(h.mine b hm2).elim hm (fun hh=>by omega))).trans (h.block b hb hm)
 mine:=fun b hb=>(k.mine b hb).elim (h.mine b) (fun hh=> .inr (Nat.le_trans h.size hh))
 fzNew:=fun b hb=>(k.fzNew b hb).elim (h.fzNew b) (fun hh=>hh.elim (fun hh=> .inr (h.mine b hh)) (fun hh=> .inr (.inr (Nat.le_trans h.size hh))))
 nx:=Nat.le_trans h.nx k.nx
 ρ:=fun i hi=>(k.ρ i (Nat.lt_of_lt_of_le hi h.nx)).trans (h.ρ i hi)
 free:=k.free
/-- Only draws, new blocks, and among these new ones that never change. -/
theorem Step.later {c c':Cx} {mem:Mem} {nx:Nat} (h:InvM c mem) (hn:Names c nx) (hρ:c'.ρ=c.ρ) (hfz: ∀ b,c.fz b→c'.fz b)
 (hb:Below c.w.heap.size c.w c'.w) (hf: ∀ b,c'.fz b→c.fz b∨c.w.heap.size≤b∧b<c'.w.heap.size):Step c mem nx c' mem nx:=by
 have hle:c.Le c':=⟨hfz,fun b hb' o=>cell_of_block (hb.block b (h.1.lt b hb')) o,fun i v hi=>by rw [hρ];exact hi⟩
 obtain ⟨h1,h2⟩:=h.later hle hb.size hb.block hf
 exact ⟨h1,hle,hb.os,hb.tape,hb.output,hb.size,fun b hb' _=>hb.block b hb',fun b hm=> .inl (h2 b hm),fun b hm=>(hf b hm).imp id (fun hh=> .inr hh.1),Nat.le_refl _,
  fun i _=>by rw [hρ],⟨fun i hi=>by rw [hρ];exact hn.1 i hi,fun i v hi=>hn.2 i v (by rw [← hρ];exact hi)⟩⟩
def resC (mem:Mem):PV→PV
 | .own i=>match mem i with
   | some (.row _ _ es)=> .seq es
   | some (.fro es)=> .seq es
   | _=> .undef
 | .nil=> .seq []
 | u=>u
def res1 (mem:Mem):PV→PV
 | .agg cs=> .agg (cs.map (resC mem))
 | u=>resC mem u
def res (mem:Mem):PV→PV
 | .tup xs=> .tup (xs.map (res1 mem))
 | u=>res1 mem u
def ownsC:PV→List Nat
 | .own i=>[i]
 | _=>[]
def owns1:PV→List Nat
 | .agg cs=>cs.flatMap ownsC
 | u=>ownsC u
def owns:PV→List Nat
 | .tup xs=>xs.flatMap owns1
 | u=>owns1 u
def frz1 (mem:Mem) (i:Nat):Mem:=match mem i with
 | some (.row _ _ es)=>upd mem i (some (.fro es))
 | _=>mem
def frz (mem:Mem):List Nat→Mem
 | []=>mem
 | i::is=>frz (frz1 mem i) is
theorem frz1_of_row {mem:Mem} {i:Nat} {e:TypeId} {s:Nat} {es:List (List PV)} (h:mem i=some (.row e s es)):frz1 mem i=upd mem i (some (.fro es)):=by
 unfold frz1;rw [h]
theorem frz1_other {mem:Mem} {i j:Nat} (h:j≠i):frz1 mem i j=mem j:=by
 have: ∀ o:Option MB,(match o with|some (.row _ _ es)=>upd mem i (some (.fro es))|_=>mem) j=mem j:=by
  intro o
  rcases o with _|(_|_|_|_)<;>first|rfl|exact upd_other _ _ h
 exact this (mem i)
theorem frz1_row {mem:Mem} {i j:Nat} {e:TypeId} {s:Nat} {es:List (List PV)} (h:mem j=some (.row e s es)):frz1 mem i j=some (.row e s es)∧i≠j∨frz1 mem i j=some (.fro es):=by
 by_cases e':i=j
 · subst e';rw [frz1_of_row h];exact .inr (upd_same _ _ _)
 · left
   exact ⟨by rw [frz1_other (fun e''=>e' e''.symm)];exact h,e'⟩
theorem frz1_fro {mem:Mem} {i j:Nat} {es:List (List PV)} (h:mem j=some (.fro es)):frz1 mem i j=some (.fro es):=by
 by_cases e':i=j
 · subst e';unfold frz1;rw [h];exact h
 · rw [frz1_other (fun e''=>e' e''.symm)];exact h
theorem frz_fro: ∀ (is:List Nat) {mem:Mem} {j:Nat} {es:List (List PV)},mem j=some (.fro es)→frz mem is j=some (.fro es)
 | [],_,_,_,h=>h
 | i::is,_,_,_,h=>frz_fro is (frz1_fro h)
theorem frz_row: ∀ (is:List Nat) {mem:Mem} {j:Nat} {e:TypeId} {s:Nat} {es:List (List PV)},mem j=some (.row e s es)→j ∈ is→frz mem is j=some (.fro es)
 | [],_,_,_,_,_,_,hj=>by simp at hj
 | i::is,mem,j,e,s,es,h,hj=>by
   rcases frz1_row (i:=i) h with ⟨h',hne⟩|h'
   · exact frz_row is h' (by simpa [Ne.symm hne] using hj)
   · exact frz_fro is h'
theorem Step.frz1 {c:Cx} {mem:Mem} {nx:Nat} (i:Nat) (h:InvM c mem) (hn:Names c nx) :
 ∃ c',c'.w=c.w∧c'.ρ=c.ρ∧Step c mem nx c' (frz1 mem i) nx:=by
 unfold Proofs.YtnbjogilidfkdaaGreat.frz1
 split
 · rename_i e s es hm
   obtain ⟨v,hv,hi,hl,hr,hm1,hm2⟩:=h.freeze hm
   refine ⟨⟨c.w,fun b=>c.fz b∨v.ownBlock=some b,c.ρ⟩,rfl,rfl,hi,hl,rfl,rfl,rfl,Nat.le_refl _,fun _ _ _=>rfl,fun b hb=> .inl (hm2 b hb),fun b hb=>hb.imp id (fun hb=> .inl (hm1 b hb)),Nat.le_refl _,fun _ _=>rfl,hn⟩
 · exact ⟨c,rfl,rfl,.refl h hn⟩
theorem Step.frz: ∀ (is:List Nat) {c:Cx} {mem:Mem} {nx:Nat},InvM c mem→Names c nx →
 ∃ c',c'.w=c.w∧c'.ρ=c.ρ∧Step c mem nx c' (frz mem is) nx
 | [],c,mem,nx,h,hn=>⟨c,rfl,rfl,.refl h hn⟩
 | i::is,c,mem,nx,h,hn=>by
   obtain ⟨c1,e1,e2,s1⟩:=Step.frz1 i h hn
   obtain ⟨c2,e3,e4,s2⟩:=Step.frz is s1.inv s1.free
   exact ⟨c2,e3.trans e1,e4.trans e2,s1.trans s2⟩
theorem rep_fro {c:Cx} {mem:Mem} {i:Nat} {es:List (List PV)} {v:Value} (h:InvM c mem) (hm:mem i=some (.fro es)) (hr:Rep (.own i) c v):Rep (.seq es) c v:=by
 obtain ⟨_,S,h1,_,_⟩:=h
 obtain ⟨u,hu,hs,_⟩:=h1 i _ hm
 unfold Rep at hr
 rw [hu] at hr
 cases hr
 exact hs
theorem rep_nil {c:Cx} {v:Value} (hr:Rep .nil c v):Rep (.seq []) c v:=by
 unfold Rep at *
 subst hr
 exact ⟨none,0,rfl,Nat.le_refl _,by simp [maxLen],.inl rfl⟩
theorem rep_resC {c:Cx} {mem mem':Mem} {u:PV} {v:Value} (h:InvM c mem') (hm: ∀ i ∈ ownsC u,∀ es,((∃ e s,mem i=some (.row e s es))∨mem i=some (.fro es))→mem' i=some (.fro es))
 (hr:Rep u c v):Rep (resC mem u) c v:=by
 cases u with
 | own i =>
   simp only [resC]
   split
   · rename_i e s es hi
     exact rep_fro h (hm i (by simp [ownsC]) es (.inl ⟨e,s,hi⟩)) hr
   · rename_i es hi
     exact rep_fro h (hm i (by simp [ownsC]) es (.inr hi)) hr
   · unfold Rep;trivial
 | nil=>exact rep_nil hr
 | _=>exact hr
theorem repL_map {c:Cx} (f:PV→PV): ∀ {us:List PV} {vs:List Value},(∀ u ∈ us,∀ v,Rep u c v→Rep (f u) c v)→RepL us c vs→RepL (us.map f) c vs
 | [],vs,_,h=>by rw [RepL.nil_iff] at h;subst h;simp [RepL.nil_iff]
 | u::us,vs,hf,h=>by
   rw [RepL.cons_iff] at h
   obtain ⟨x,xs,rfl,h1,h2⟩:=h
   rw [List.map_cons,RepL.cons_iff]
   exact ⟨x,xs,rfl,hf u (by simp) x h1,repL_map f (fun t ht=>hf t (by simp [ht])) h2⟩
theorem rep_res1 {c:Cx} {mem mem':Mem} {u:PV} {v:Value} (h:InvM c mem') (hm: ∀ i ∈ owns1 u,∀ es,((∃ e s,mem i=some (.row e s es))∨mem i=some (.fro es))→mem' i=some (.fro es))
 (hr:Rep u c v):Rep (res1 mem u) c v:=by
 cases u with
 | agg cs =>
   simp only [res1]
   unfold Rep at *
   obtain ⟨vs,e,hr⟩:=hr
   exact ⟨vs,e,repL_map _ (fun u hu v hv=>rep_resC h (fun i hi es=>hm i (by simp only [owns1,List.mem_flatMap];exact ⟨u,hu,hi⟩) es) hv) hr⟩
 | own i=>exact rep_resC (u:= .own i) h hm hr
 | nil=>exact rep_nil hr
 | _=>exact hr
theorem rep_res {c:Cx} {mem mem':Mem} {u:PV} {v:Value} (h:InvM c mem') (hm: ∀ i ∈ owns u,∀ es,((∃ e s,mem i=some (.row e s es))∨mem i=some (.fro es))→mem' i=some (.fro es))
 (hr:Rep u c v):Rep (res mem u) c v:=by
 cases u with
 | tup cs =>
   simp only [res]
   unfold Rep at *
   obtain ⟨vs,e,hr⟩:=hr
   exact ⟨vs,e,repL_map _ (fun u hu v hv=>rep_res1 h (fun i hi es=>hm i (by simp only [owns,List.mem_flatMap];exact ⟨u,hu,hi⟩) es) hv) hr⟩
 | own i=>exact rep_res1 (u:= .own i) h hm hr
 | agg cs=>exact rep_res1 (u:= .agg cs) h hm hr
 | nil=>exact rep_nil hr
 | _=>exact hr
theorem frz_fits (mem:Mem) (is:List Nat): ∀ i ∈ is,∀ es,((∃ e s,mem i=some (.row e s es))∨mem i=some (.fro es))→frz mem is i=some (.fro es):=by
 rintro i hi es (⟨e,s,h⟩|h)
 · exact frz_row is h hi
 · exact frz_fro is h
def aggOf (P:Program) (t:TypeId):Option (Option Nat) :=
 match P.underlying t with
 | some (.struct _)=>(P.info? t).map fun i=>some i.size
 | some (.array _ _)=>(P.info? t).map fun i=>some i.size
 | some _=>(P.info? t).bind fun i=>if i.size=1 then some none else none
 | none=>none
def fldOf (P:Program) (t:TypeId) (f:Nat):Option (Nat×Bool) :=
 match P.underlying t with
 | some (.struct fs)=>(fs[f]?).bind fun fd=>(P.info? fd.type).bind fun i=>if i.size=0 then none else some (fd.offset,i.size == 1 && !(match P.underlying fd.type with|some (.struct _)=>true|some (.array _ _)=>true|none=>true|_=>false))
 | _=>none
def elOf (P:Program) (t:TypeId):Option (TypeId×Nat×Nat) :=
 match P.underlying t with
 | some (.slice e)=>(P.info? e).bind fun i=>match i.zero with
   | some z=>if i.size=0 || z.cells.size != i.size then none else some (e,i.size,i.bytes)
   | none=>none
 | _=>none
def pvOf:Value→PV
 | .int k n=> .int k n
 | .bool b=> .bool b
 | .string s=> .str s.data.toList
 | .slice none 0 0=> .nil
 | v=> .raw v
def zeroOf (P:Program) (t:TypeId):Option (List PV) :=
 (P.info? t).bind fun i=>match i.zero with
   | some z=>if z.cells.size=i.size && z.cells.toList.all Value.oneCell' then some (z.cells.toList.map pvOf) else none
   | none=>none
inductive SK where
 | str|bytes|sl
 deriving DecidableEq
def kindOf (P:Program) (t:TypeId):Option (IntKind ⊕ SK) :=
 match P.underlying t with
 | some (.int k)=>some (.inl k)
 | some .string=>some (.inr .str)
 | some (.slice e)=>match P.underlying e with
   | some (.int .u8)=>some (.inr .bytes)
   | _=>some (.inr .sl)
 | _=>none
theorem rep_pvOf (c:Cx) (v:Value):Rep (pvOf v) c v:=by
 unfold pvOf
 split<;>unfold Rep<;>try rfl
theorem repL_pvOf (c:Cx): ∀ vs:List Value,RepL (vs.map pvOf) c vs
 | []=>by simp [RepL.nil_iff]
 | v::vs=>by rw [List.map_cons,RepL.cons_iff];exact ⟨v,vs,rfl,rep_pvOf c v,repL_pvOf c vs⟩
def inR:IntKind→Int→Prop
 | .i64,x=> -9223372036854775808≤x∧x≤9223372036854775807
 | .u8,x=>0≤x∧x≤255
 | .i32,x=> -2147483648≤x∧x≤2147483647
 | .u32,x=>0≤x∧x≤4294967295
 | k,x=>k.wrap x=x
theorem inR.wrap {k:IntKind} {x:Int} (h:inR k x):k.wrap x=x:=by
 cases k<;>simp only [inR] at h<;>first
  | exact h
  | exact IntWalk.i64_in _ h
  | exact IntWalk.u8_in _ h
  | exact IntWalk.i32_in _ h
  | exact IntWalk.u32_in _ h
/-- A binary operator: K is asked at the result, where the operation is safe. -/
def aBin (P:Program) (op:BinOp) (t:TypeId) (x y:PV) (K:PV→Prop):Prop :=
 match op,x,y with
 | .add,.int k a,.int k' b=>k=k'∧inR k (a+b)∧K (.int k (a+b))
 | .sub,.int k a,.int k' b=>k=k'∧inR k (a - b)∧K (.int k (a - b))
 | .mul,.int k a,.int k' b=>k=k'∧inR k (a * b)∧K (.int k (a * b))
 | .quo,.int k a,.int k' b=>k=k'∧0≤a∧0<b∧inR k (a / b)∧K (.int k (a / b))
 | .rem,.int k a,.int k' b=>k=k'∧0≤a∧0<b∧K (.int k (a % b))
 | .shr,.int k a,.int _ b=>k= .u8∧b=4∧K (.int k (a / 16))
 | .and,.int k a,.int k' b=>k= .u8∧k'= .u8∧0≤a∧a<256∧b=15∧K (.int k (a % 16))
 | .xor,.int k a,.int k' b=>k= .i64∧k'= .i64∧0≤a∧0≤b∧a≤9223372036854775807∧b≤9223372036854775807∧K (.int k ((a.toNat ^^^ b.toNat:Nat):Int))
 | .eql,.int k a,.int k' b=>k=k'∧K (.bool (decide (a=b)))
 | .neq,.int k a,.int k' b=>k=k'∧K (.bool (!decide (a=b)))
 | .lss,.int k a,.int k' b=>k=k'∧K (.bool (decide (a<b)))
 | .leq,.int k a,.int k' b=>k=k'∧K (.bool (decide (a≤b)))
 | .gtr,.int k a,.int k' b=>k=k'∧K (.bool (decide (b<a)))
 | .geq,.int k a,.int k' b=>k=k'∧K (.bool (decide (b≤a)))
 | .add,.str l,.str m=>l.length+m.length≤9223372036854775807∧K (.str (l++m))
 | .eql,.str l,.str m=>K (.bool (decide (l=m)))
 | .neq,.str l,.str m=>K (.bool (!decide (l=m)))
 | .lss,.str l,.str m=>K (.bool (Op.bytesLess l m))
 | .leq,.str l,.str m=>K (.bool (Op.bytesLess l m || decide (l=m)))
 | .eql,.bool a,.bool b=>(P.underlying t=some .bool)∧K (.bool (a == b))
 | .neq,.bool a,.bool b=>(P.underlying t=some .bool)∧K (.bool (!(a == b)))
 | _,_,_=>False
end Go.Proofs.YtnbjogilidfkdaaGreat
