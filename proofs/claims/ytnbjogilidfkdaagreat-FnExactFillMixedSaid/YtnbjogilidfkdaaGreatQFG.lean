/- Functions over one lent block, whatever their arguments; a variable that holds a row, as one block. No program. -/
import Derived.Test.YtnbjogilidfkdaaGreatQF12

namespace Go.Proofs.YtnbjogilidfkdaaGreat
set_option maxRecDepth 100000
set_option linter.unusedVariables false
set_option linter.unusedSimpArgs false
open Go.RowKit
theorem repL_oneG {c:Cx} {i:Nat} {us:List PV} {vs:List Value} (h:RepL (renL (fun _=>i) us) c vs) (hc:nmbL 1 us=true):RepL us (c.one i) vs:=RepL.nam us hc h
/-- A function over one block, that its arguments name somewhere; it hands back plain data. -/
def locG {α:Type} (args:α→List PV) (B:α→MB) (pre:α→Prop) (post:α→PV→MB→Prop):AC:=fun as mem n K =>
 ∃ x i,as=renL (fun _=>i) (args x)∧mem i=some (B x)∧pre x∧ ∀ r b',post x r b'→K r (upd mem i (some b')) n
section
variable {P:Program} {Γ:Ctr} {G:PCtr} {α:Type} {args:α→List PV} {B:α→MB} {pre:α→Prop}
/-- What a call over one block leaves behind. -/
theorem Step.liftV {c:Cx} {mem:Mem} {n i:Nat} {b0 b':MB} {c2:Cx} {m2:Mem} {k2:Nat} {r:PV} {v':Value} (hI:InvM c mem) (hn:Names c n) (hi:mem i=some b0) (hb0:b0.nmb 0=true)
 (stA:Step (c.one i) (mkM [(0,b0)]) 1 c2 m2 k2) (h0:m2 0=some b') (hb2:b'.nmb 0=true) (hr0:r.nmb 0=true) (hrep2:Rep r c2 v') :
 Step c mem n ⟨c2.w,c2.fz,c.ρ⟩ (upd mem i (some b')) n∧Rep r ⟨c2.w,c2.fz,c.ρ⟩ v':=by
 refine ⟨Step.lift hI hn hi hb0 stA (fun l=>if l=i then some 0 else none) ?_ ?_ ?_ (fun _ _=>rfl) (fun l hl=>hn.1 l hl) ?_ ?_ (.inl rfl),hrep2.any hr0 rfl rfl⟩
 · intro l a hl
   by_cases e:l=i
   · rw [if_pos e] at hl;cases hl;exact .inl ⟨e,rfl⟩
   · rw [if_neg e] at hl;cases hl
 · intro l l' a hl hl'
   by_cases e:l=i
   · by_cases e':l'=i
     · rw [e,e']
     · rw [if_neg e'] at hl';cases hl'
   · rw [if_neg e] at hl;cases hl
 · intro l mb hl
   by_cases e:l=i
   · subst e;rw [upd_same] at hl;cases hl;exact .inl ⟨0,if_pos rfl,h0,hb2⟩
   · rw [upd_other _ _ e] at hl
     refine .inr ⟨if_neg e,e,?_,hl⟩
     rintro rfl
     exact absurd (name_lt hI hn hl) (Nat.lt_irrefl _)
 · have hin:=name_lt hI hn hi
   intro a ha
   rw [if_neg (by omega)] at ha;cases ha
 · intro v hv;rw [hn.1 n (Nat.le_refl _)] at hv;cases hv
theorem locG_ok {post:α→PV→MB→Prop} (m:Nat) (hΓ: ∀ f C,Γ f=some C→ACok P f C) (hG: ∀ f R,G f=some R→PureOk P f R) (hm:P.follows .mixedOrders=true) {f:FuncId} {fn:Func} {code:Code} (rs:List ResultVar) (hf:P.funcs[f]?=some fn) (hb:fn.body=some code) (hrs:fn.results.toList=rs) (hN:codeN fn.ntmps code=true)
 (hname:(fn.name == "runtime.NumGoroutine")=false) (hl: ∀ x,(args x).length=m) (hle:Nat.ble m fn.ntmps=true) (hca: ∀ x,nmbL 1 (args x)=true) (hcb: ∀ x,(B x).nmb 0=true)
 (h: ∀ x K,pre x→(∀ r b',post x r b'→K r b')→awp P G Γ 1 code (FinV P rs K) (entry (args x) (mkM [(0,B x)]) 1)):ACok P f (locG args B pre post):=by
 subst hrs
 refine ⟨⟨fn,hf,by rw [hb];rfl,hname⟩,fun c mem n as vs K hI hn hr hC=>?_⟩
 obtain ⟨x,i,rfl,hi,hp,hK⟩:=hC
 refine (calls_of_body hΓ hG hm hf hb hN (hI.one hi (hcb x)) (Names.one hn) (repL_oneG hr (hca x)) (by rw [hl x];exact Nat.le_of_ble_eq_true hle) (K:=fun r mem _=>(res mem r).nmb 0=true∧0 ∉ owns r∧ ∃ b',mem 0=some b'∧b'.nmb 0=true∧post x (res mem r) b') (h x (fun r b'=>post x r b') hp (fun _ _ h=>h))).mono ?_
 rintro e w' ⟨v',r,c1,m1,k1,rfl,rfl,⟨hr0,hno,b',hb1,hb2,hpost⟩,st,hrep⟩
 obtain ⟨c2,e1,e2,st2⟩:=Step.frz (owns r) st.inv st.free
 have hrep2:Rep (res m1 r) c2 v':=rep_res st2.inv (frz_fits m1 (owns r)) (Rep.mono _ st2.le hrep)
 have h0:frz m1 (owns r) 0=some b':=by rw [frz_not hno];exact hb1
 obtain ⟨s1,s2⟩:=Step.liftV hI hn hi (hcb x) (st.trans st2) h0 hb2 hr0 hrep2
 exact ⟨v',_,⟨c2.w,c2.fz,c.ρ⟩,_,_,rfl,e1,hK _ _ hpost,s1,s2⟩
end
section
variable {P:Program} {Γ:Ctr} {G:PCtr} {α:Type} {args:α→List PV} {B:α→List (List PV)} {pre:α→Prop}
/-- At the end: the variable holds a row, and the result is plain. -/
def FinB (P:Program) (rs:List ResultVar) (K:PV→List (List PV)→Prop) (e:TypeId) (s:Nat):AX→AS→Prop:=Fin P rs fun r mem _=>plainV r=true∧ ∃ k es,mem 0=some (.box [.own k])∧mem k=some (.row e s es)∧es.all (·.all plainU)=true∧K r es
theorem fin_B {rs:List ResultVar} {σ:AS} {K:PV→List (List PV)→Prop} {e:TypeId} {s:Nat} (h:aRes P σ rs fun us=>plainV (packR us)=true∧ ∃ k es,σ.mem 0=some (.box [.own k])∧σ.mem k=some (.row e s es)∧es.all (·.all plainU)=true∧K (packR us) es):FinB P rs K e s .ret σ:=h
theorem fin_Be {rs:List ResultVar} {σ:AS} {K:PV→List (List PV)→Prop} {e:TypeId} {s:Nat} (h:aRes P σ rs fun us=>plainV (packR us)=true∧ ∃ k es,σ.mem 0=some (.box [.own k])∧σ.mem k=some (.row e s es)∧es.all (·.all plainU)=true∧K (packR us) es):FinB P rs K e s .normal σ:=h
end
end Go.Proofs.YtnbjogilidfkdaaGreat

/- A box of plain data is frozen; closures that lent blocks stand in: contracts in other words. No program. -/
namespace Go.Proofs.YtnbjogilidfkdaaGreat
set_option maxRecDepth 100000
set_option linter.unusedVariables false
set_option linter.unusedSimpArgs false
open Go.RowKit
/-- Never called. -/
theorem locG_never {P:Program} {f:FuncId} {α:Type} {args:α→List PV} {B:α→MB} {pre:α→Prop} {post:α→PV→MB→Prop} (hf: ∃ fn,P.funcs[f]?=some fn∧fn.body.isNone=false∧(fn.name == "runtime.NumGoroutine")=false) (h: ∀ x,¬ pre x):ACok P f (locG args B pre post) :=
 ⟨hf,fun c mem n as vs K hI hn hr hC=>by
  obtain ⟨x,i,_,_,hp,_⟩:=hC
  exact absurd hp (h x)⟩
end Go.Proofs.YtnbjogilidfkdaaGreat
