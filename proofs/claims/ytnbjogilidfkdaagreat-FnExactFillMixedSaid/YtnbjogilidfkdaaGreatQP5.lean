/- Arguments of a law: fields, opened. -/
import Derived.Test.YtnbjogilidfkdaaGreatQP3
import Derived.Test.YtnbjogilidfkdaaGreatQK3

namespace Go.Proofs.YtnbjogilidfkdaaGreat
set_option maxRecDepth 100000
set_option linter.unusedVariables false
set_option linter.unusedSimpArgs false
open Go.RowKit
theorem map_of5 {α:Type} {enc:α→List PV} {ok:List PV→Prop} {q:α→Prop} {es:List (List PV)} (h: ∀ e ∈ es,ok e) (h1: ∀ e,ok e→ ∃ x,e=enc x∧q x): ∃ xs:List α,es=xs.map enc∧ ∀ x ∈ xs,q x:=by
 induction es with
 | nil=>exact ⟨[],rfl,fun _ h=>by simp at h⟩
 | cons e es ih =>
   obtain ⟨xs,rfl,hq⟩:=ih fun x hx=>h x (by simp [hx])
   obtain ⟨x,rfl,hx⟩:=h1 e (h e (by simp))
   exact ⟨x::xs,rfl,fun y hy=>by
    rcases List.mem_cons.1 hy with rfl|hy
    · exact hx
    · exact hq y hy⟩
def Arg_fields (w:World) (v:Value):Prop:= ∃ xs:List FieldD,okF xs∧Rep (.seq (encFs xs)) ⟨w,fun b=>b<w.heap.size,fun _=>none⟩ v
theorem setF_plain:plainB Tryz.prog (setU 36)=true:=by kernel_rfl
theorem okU_field {n:Nat} {us:List PV} (h:okT Tryz.prog n 77 us): ∃ x:FieldD,us=encF x∧x.name.length≤9223372036854775807∧x.text.length≤9223372036854775807∧x.items.length≤9223372036854775807∧ ∀ t ∈ x.items,t.length≤9223372036854775807:=by
 cases n with
 | zero=>exact h.elim
 | succ n =>
   unfold okT at h
   rw [Tryz.underlying77] at h
   simp only [okT.okF] at h
   obtain ⟨a0,r0,rfl,h0,a1,r1,rfl,h1,a2,r2,rfl,h2,a3,r3,rfl,h3,rfl⟩:=h
   obtain ⟨s,rfl,l0⟩:=okU_str Tryz.underlying9 h0
   obtain ⟨t,rfl,l1⟩:=okU_str Tryz.underlying9 h1
   obtain ⟨b,rfl⟩:=okU_bool Tryz.underlying4 h2
   obtain ⟨es,m,rfl,hl,hall⟩:=okU_slice Tryz.underlying44 h3
   obtain ⟨xs,rfl,hq⟩:=map_of5 (enc:=fun t:Bs=>[PV.str t]) (q:=fun t=>t.length≤9223372036854775807) hall fun e he=>okU_str Tryz.underlying9 he
   exact ⟨⟨s,t,b,xs⟩,rfl,l0,l1,by simpa using hl,hq⟩
theorem open_fields {H:Type} {enc:TypeId×Value→H} {w:World} {spare:Nat→Bool} {held:Bool} {n:Nat} {a:Option Addr} {l c:Nat} {x:DataW H×List MemPlace}
 (h:DataW.trod enc Tryz.prog w 0 spare held n 36 (Value.slice a l c).cells.toList=some x):Arg_fields w (.slice a l c):=by
 obtain ⟨us,h1,_,h3⟩:=open_plain setF_plain n _ (List.contains_iff_mem.1 (show (setU 36).contains 36=true by kernel_rfl)) _ _ h
 obtain ⟨es,m,rfl,hl,hall⟩:=okU_slice Tryz.underlying36 h1
 obtain ⟨xs,rfl,hq⟩:=map_of5 (enc:=encF) hall fun e he=>okU_field he
 exact ⟨xs,⟨by simpa using hl,hq⟩,repU_one h3 rfl⟩
end Go.Proofs.YtnbjogilidfkdaaGreat
