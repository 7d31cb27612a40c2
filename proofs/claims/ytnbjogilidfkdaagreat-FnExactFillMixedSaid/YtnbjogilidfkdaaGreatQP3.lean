/- Arguments of a law: bytes, lists of parts, opened. -/
import Derived.Test.YtnbjogilidfkdaaGreatQF14
import Derived.Test.YtnbjogilidfkdaaGreatQF12
import Derived.Test.YtnbjogilidfkdaaGreatQTY

namespace Go.Proofs.YtnbjogilidfkdaaGreat
set_option maxRecDepth 100000
set_option linter.unusedVariables false
set_option linter.unusedSimpArgs false
open Go.RowKit
def closeU (P:Program):Nat→List TypeId→List TypeId
 | 0,S=>S
 | n+1,S=>closeU P n (S++S.flatMap fun t=>match P.underlying t with
   | some (.slice e)=>[e]
   | some (.struct fs)=>fs.toList.map (·.type)
   | _=>[]).eraseDups
noncomputable def setU (t:TypeId):List TypeId:=closeU Tryz.prog 4 [t]
theorem okU_int {P:Program} {n:Nat} {t:TypeId} {us:List PV} {k:IntKind} (hu:P.underlying t=some (.int k)) (h:okT P n t us): ∃ i,us=[.int k i]∧(Lit.int k i).wf=true:=by
 cases n with
 | zero=>exact h.elim
 | succ n=>unfold okT at h;rw [hu] at h;exact h
theorem okU_str {P:Program} {n:Nat} {t:TypeId} {us:List PV} (hu:P.underlying t=some .string) (h:okT P n t us): ∃ l,us=[.str l]∧l.length≤9223372036854775807:=by
 cases n with
 | zero=>exact h.elim
 | succ n=>unfold okT at h;rw [hu] at h;exact h
theorem okU_bool {P:Program} {n:Nat} {t:TypeId} {us:List PV} (hu:P.underlying t=some .bool) (h:okT P n t us): ∃ b,us=[.bool b]:=by
 cases n with
 | zero=>exact h.elim
 | succ n=>unfold okT at h;rw [hu] at h;exact h
theorem okU_slice {P:Program} {n:Nat} {t e:TypeId} {us:List PV} (hu:P.underlying t=some (.slice e)) (h:okT P n t us): ∃ es m,us=[.seq es]∧es.length≤9223372036854775807∧ ∀ x ∈ es,okT P m e x:=by
 cases n with
 | zero=>exact h.elim
 | succ n =>
   unfold okT at h;rw [hu] at h
   obtain ⟨es,h1,h2,h3⟩:=h
   exact ⟨es,n,h1,h2,h3⟩
/-- One cell: what stands in it. -/
theorem repU_one {u:PV} {c:Cx} {v:Value} (h:RepL [u] c v.cells.toList) (hv:v.cells= #[v]):Rep u c v:=by
 rw [hv,RepL.cons_iff] at h
 obtain ⟨x,xs,e,h1,h2⟩:=h
 simp at e
 rw [e.1]
 exact h1
def Arg_partz (w:World) (v:Value):Prop:= ∃ xs,(okL xs∧xs.length≤9223372036854775807)∧Rep (.seq (encPs xs)) ⟨w,fun b=>b<w.heap.size,fun _=>none⟩ v
theorem setL_plain:plainB Tryz.prog (setU 35)=true:=by kernel_rfl
theorem okU_parts: ∀ (n:Nat) (us:List PV),(okT Tryz.prog n 75 us→ ∃ x,us=encP x∧okP x)∧(okT Tryz.prog n 35 us→ ∃ xs,us=[.seq (encPs xs)]∧okL xs∧xs.length≤9223372036854775807)
 | 0,us=>⟨fun h=>h.elim,fun h=>h.elim⟩
 | n+1,us=>by
   refine ⟨fun h=>?_,fun h=>?_⟩
   · unfold okT at h
     rw [Tryz.underlying75] at h
     simp only [okT.okF] at h
     obtain ⟨a0,r0,rfl,h0,a1,r1,rfl,h1,a2,r2,rfl,h2,a3,r3,rfl,h3,a4,r4,rfl,h4,rfl⟩:=h
     obtain ⟨k,rfl,_⟩:=okU_int Tryz.underlying3 h0
     obtain ⟨t,rfl,l1⟩:=okU_str Tryz.underlying9 h1
     obtain ⟨m,rfl,l2⟩:=okU_str Tryz.underlying9 h2
     obtain ⟨ps,rfl,o3,l3⟩:=(okU_parts n a3).2 h3
     obtain ⟨os,rfl,o4,l4⟩:=(okU_parts n a4).2 h4
     exact ⟨.mk k t m ps os,by simp [encP],by rw [okP_mk];exact ⟨l1,l2,l3,l4,o3,o4⟩⟩
   · unfold okT at h
     rw [Tryz.underlying35] at h
     obtain ⟨es,rfl,hl,hall⟩:=h
     have: ∃ xs,es=encPs xs∧okL xs:=by
      clear hl
      induction es with
      | nil=>exact ⟨[],by simp [encPs],by simp [okL]⟩
      | cons e es ih =>
        obtain ⟨xs,rfl,h1⟩:=ih fun x hx=>hall x (by simp [hx])
        obtain ⟨x,rfl,h2⟩:=(okU_parts n e).1 (hall e (by simp))
        exact ⟨x::xs,by simp [encPs],by simp [okL,h1,h2]⟩
     obtain ⟨xs,rfl,h1⟩:=this
     exact ⟨xs,rfl,h1,by simpa [encPs_length] using hl⟩
theorem open_partz {H:Type} {enc:TypeId×Value→H} {w:World} {spare:Nat→Bool} {held:Bool} {n:Nat} {a:Option Addr} {l c:Nat} {x:DataW H×List MemPlace}
 (h:DataW.trod enc Tryz.prog w 0 spare held n 35 (Value.slice a l c).cells.toList=some x):Arg_partz w (.slice a l c):=by
 obtain ⟨us,h1,_,h3⟩:=open_plain setL_plain n _ (List.contains_iff_mem.1 (show (setU 35).contains 35=true by kernel_rfl)) _ _ h
 obtain ⟨xs,rfl,h4,h5⟩:=(okU_parts n us).2 h1
 exact ⟨xs,⟨h4,h5⟩,repU_one h3 rfl⟩
end Go.Proofs.YtnbjogilidfkdaaGreat
