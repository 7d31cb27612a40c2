/- Arguments of a law: bytes, lists of parts, opened. -/
import Derived.Test.YtnbjogilidfkdaaGreatVF14
import Derived.Test.YtnbjogilidfkdaaGreatVF12
import Derived.Test.YtnbjogilidfkdaaGreatVTY
import Derived.Test.YtnbjogilidfkdaaGreatVD1

namespace Go.Proofs.YtnbjogilidfkdaaGreat
set_option maxRecDepth 100000
set_option linter.unusedVariables false
set_option linter.unusedSimpArgs false
open Go.RowKit
def closeU (P:Program):Nat→List TypeId→List TypeId
 | 0,S=>S
 | n+1,S=>closeU P n (S++S.flatMap fun t=>match P.underlying t with
   | some (.slice e)=>[e]
   | some (.struct fs)=>fs.toList.map (·.type)
   | _=>[]).eraseDups
noncomputable def setU (t:TypeId):List TypeId:=closeU Tryz.prog 4 [t]
theorem okU_int {P:Program} {n:Nat} {t:TypeId} {us:List PV} {k:IntKind} (hu:P.underlying t=some (.int k)) (h:okT P n t us): ∃ i,us=[.int k i]∧(Lit.int k i).wf=true:=by
 cases n with
 | zero=>exact h.elim
 | succ n=>unfold okT at h;rw [hu] at h;exact h
theorem okU_slice {P:Program} {n:Nat} {t e:TypeId} {us:List PV} (hu:P.underlying t=some (.slice e)) (h:okT P n t us): ∃ es m,us=[.seq es]∧es.length≤9223372036854775807∧ ∀ x ∈ es,okT P m e x:=by
 cases n with
 | zero=>exact h.elim
 | succ n =>
   unfold okT at h;rw [hu] at h
   obtain ⟨es,h1,h2,h3⟩:=h
   exact ⟨es,n,h1,h2,h3⟩
/-- One cell: what stands in it. -/
theorem repU_one {u:PV} {c:Cx} {v:Value} (h:RepL [u] c v.cells.toList) (hv:v.cells= #[v]):Rep u c v:=by
 rw [hv,RepL.cons_iff] at h
 obtain ⟨x,xs,e,h1,h2⟩:=h
 simp at e
 rw [e.1]
 exact h1
theorem map_of {α:Type} {enc:α→List PV} {ok:List PV→Prop} {es:List (List PV)} (h: ∀ e ∈ es,ok e) (h1: ∀ e,ok e→ ∃ x,e=enc x): ∃ xs:List α,es=xs.map enc:=by
 induction es with
 | nil=>exact ⟨[],rfl⟩
 | cons e es ih =>
   obtain ⟨xs,rfl⟩:=ih fun x hx=>h x (by simp [hx])
   obtain ⟨x,rfl⟩:=h1 e (h e (by simp))
   exact ⟨x::xs,rfl⟩
def Arg_bytes (w:World) (v:Value):Prop:= ∃ xs:Bs,xs.length≤9223372036854775807∧Rep (.seq (xs.map bc)) ⟨w,fun b=>b<w.heap.size,fun _=>none⟩ v
theorem wf_u8 {i:Int} (h:(Lit.int .u8 i).wf=true):0≤i∧i<256:=by
 have h1:IntKind.u8.min=0:=by decide
 have h2:IntKind.u8.max=255:=by decide
 simp only [Lit.wf,Bool.and_eq_true,decide_eq_true_eq,h1,h2] at h
 omega
theorem setB_plain:plainB Tryz.prog (setU 22)=true:=by kernel_rfl
theorem open_bytes {H:Type} {enc:TypeId×Value→H} {w:World} {spare:Nat→Bool} {held:Bool} {n:Nat} {a:Option Addr} {l c:Nat} {x:DataW H×List MemPlace}
 (h:DataW.trod enc Tryz.prog w 0 spare held n 22 (Value.slice a l c).cells.toList=some x):Arg_bytes w (.slice a l c):=by
 obtain ⟨us,h1,_,h3⟩:=open_plain setB_plain n _ (List.contains_iff_mem.1 (show (setU 22).contains 22=true by kernel_rfl)) _ _ h
 obtain ⟨es,m,rfl,hl,hall⟩:=okU_slice Tryz.underlying22 h1
 obtain ⟨xs,rfl⟩:=map_of (enc:=bc) hall fun e he=>by
  obtain ⟨i,rfl,hi⟩:=okU_int Tryz.underlying5 he
  obtain ⟨b,rfl⟩:=byte_of (wf_u8 hi).1 (wf_u8 hi).2
  exact ⟨b,rfl⟩
 exact ⟨xs,by simpa using hl,repU_one h3 rfl⟩
end Go.Proofs.YtnbjogilidfkdaaGreat
