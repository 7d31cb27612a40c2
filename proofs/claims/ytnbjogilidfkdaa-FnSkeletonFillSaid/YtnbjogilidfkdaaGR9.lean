/- Drawn inputs of the laws over parts: what comes back is frozen, behind it any memory. -/
import Derived.Test.YtnbjogilidfkdaaGX8

namespace Go.Proofs.Ytnbjogilidfkdaa
set_option maxRecDepth 100000
set_option linter.unusedVariables false
set_option linter.unusedSimpArgs false
open Go.RowKit
--LV=R9
/-- A drawing function: some good input, whose memory is frozen; behind it any memory. -/
def drwO {α:Type} (good:α→Prop) (enc:α→PV):AC:=fun args mem n K=>match args with
 | [.seq es]=>(∃ l:Bs,es=l.map bc∧l.length≤1048576)∧ ∀ x r m' n',good x→res m' r=enc x→n≤n'→K r m' n'
 | _=>False
@[go_sem] def drwG {α:Type} (good:α→Prop) (enc:α→PV):AC:=fun args mem n K=>match args with
 | [.seq es]=>(∃ l:Bs,es=l.map bc∧l.length≤1048576)∧ ∀ x,good x→ ∀ m' n',n≤n'→K (enc x) m' n'
 | _=>False
theorem frzR_ok9 {P:Program} {f:FuncId} {C:AC} (h:ACok P f C):ACok P f (fun args mem n K=>C args mem n fun r mem' n'=>K (res mem' r) (frz mem' (owns r)) n'):=by
 refine ⟨h.fn,fun c mem n args vs K hI hn hr hC=>?_⟩
 refine (h.run c mem n args vs _ hI hn hr hC).mono ?_
 rintro e w' ⟨v',r,c',mem',n',rfl,hw,hK,st',hrep⟩
 obtain ⟨c1,w1,r1,st⟩:=Step.frz (owns r) st'.inv st'.free
 exact ⟨v',res mem' r,c1,frz mem' (owns r),n',rfl,w1.trans hw,hK,st'.trans st,rep_res st.inv (frz_fits mem' (owns r)) (Rep.mono _ st.le hrep)⟩
theorem drw_of {f:FuncId} {α:Type} {good:α→Prop} {enc:α→PV} (h:ACok Try.prog f (drwO good enc)):ACok Try.prog f (drwG good enc):=(frzR_ok9 h).mono fun args mem n K h=>by
 unfold drwG at h
 split at h
 · rename_i es
   obtain ⟨he,hK⟩:=h
   refine ⟨he,fun x r m' n' hx hr hn=>?_⟩
   show K (res m' r) _ _
   rw [hr]
   exact hK x hx _ _ hn
 · exact h.elim
theorem drw_args {α:Type} {good:α→Prop} {enc:α→PV} {args:List PV} {mem:Mem} {n:Nat} {K:PV→Mem→Nat→Prop} (h:drwO good enc args mem n K): ∃ es,args=[.seq es]∧(∃ l:Bs,es=l.map bc∧l.length≤1048576)∧ ∀ x r m' n',good x→res m' r=enc x→n≤n'→K r m' n':=by
 unfold drwO at h
 split at h
 · exact ⟨_,rfl,h⟩
 · exact h.elim
theorem q_1 {n:Nat}:(n=n+1)=False:=by simp
theorem q_2 {n:Nat}:(n+1=n)=False:=by simp
theorem q_3 {n:Nat}:(n=n+1+1)=False:=by simp<;>omega
theorem q_4 {n:Nat}:(n+1+1=n)=False:=by simp<;>omega
theorem q_9 {n:Nat}:(n=n+3)=False:=by simp
def gdX (xs:List PartD):Prop:=wtL xs≤6000∧xs.length≤6000
end Go.Proofs.Ytnbjogilidfkdaa
