/- Rules by which code is read step by step. -/
import Derived.Test.YtnbjogilidfkdaaGreatVFY

namespace Go.Proofs.YtnbjogilidfkdaaGreat
set_option maxRecDepth 100000
set_option linter.unusedVariables false
set_option linter.unusedSimpArgs false
open Go.RowKit
section
variable {P:Program} {G:PCtr} {Γ:Ctr} {n0:Nat}
theorem s_draw {id:Nat} {ops:Array Oper} {Q:AX→AS→Prop} {tmp:Nat→PV} {mem:Mem} {nx:Nat} (k:Nat) (hd:drawB ops k=true)
 (h:acalm P G ops.toList mem (ops.toList.take k) tmp fun tmp=>arun P Γ ops.toList (ops.toList.drop k) ⟨tmp,mem,nx⟩ (Q .normal)):awp P G Γ n0 (.region id ops true) Q ⟨tmp,mem,nx⟩ :=
 .inl ⟨k,hd,h⟩
def calmB (o:Oper):Bool:=match o.op with
 | .store .. | .alloc _| .box .. | .buildSlice .. | .makeSlice .. =>false
 | .call ⟨.builtin .append,_,_⟩=>false
 | _=>true
theorem s_drawA {id:Nat} {ops:Array Oper} {Q:AX→AS→Prop} {tmp:Nat→PV} {mem:Mem} {nx:Nat} (_hc:ops.all calmB=true) (hd:drawB ops ops.size=true)
 (h:acalm P G ops.toList mem ops.toList tmp fun tmp=>Q .normal ⟨tmp,mem,nx⟩):awp P G Γ n0 (.region id ops true) Q ⟨tmp,mem,nx⟩:=by
 refine .inl ⟨ops.size,hd,?_⟩
 rw [List.take_of_length_le (by simp),List.drop_of_length_le (by simp)]
 exact h
def Again (n0:Nat) {ι:Type} (T:ι→List (Nat×PV)) (M:ι→List (Nat×MB)) (nx:Nat) (good:ι→Prop) (μ:ι→Nat) (i:ι) (σ:AS):Prop:= ∃ i',good i'∧μ i'<μ i∧Fits n0 σ (T i') (M i') nx
theorem s_loop {c:Code} {Q:AX→AS→Prop} {σ:AS} {ι:Type} (T:ι→List (Nat×PV)) (M:ι→List (Nat×MB)) (nx:Nat) (good:ι→Prop) (μ:ι→Nat) (i0:ι) (hle:n0≤nx) (h0:good i0) (hf:fits σ (T i0) (M i0) nx)
 (hr: ∀ i,good i→awp P G Γ n0 c (AX.then (Again n0 T M nx good μ i) Q) (mkS (T i) (M i) nx)):awp P G Γ n0 (.loop c) Q σ:=by
 show ∃ (ι:Type) (T:ι→List (Nat×PV)) (M:ι→List (Nat×MB)) (nx:Nat) (good:ι→Prop) (μ:ι→Nat),_
 exact ⟨ι,T,M,nx,good,μ,hle,⟨i0,h0,hf.out⟩,hr⟩
theorem s_again {ι:Type} {T:ι→List (Nat×PV)} {M:ι→List (Nat×MB)} {nx:Nat} {good:ι→Prop} {μ:ι→Nat} {i:ι} {σ:AS} (i':ι) (h1:good i') (h2:μ i'<μ i) (h3:fits σ (T i') (M i') nx):Again n0 T M nx good μ i σ:=⟨i',h1,h2,h3.out⟩
/-- .. with other names: the name i of the round is now π i. -/
theorem s_againR {ι:Type} {T:ι→List (Nat×PV)} {M:ι→List (Nat×MB)} {nx:Nat} {good:ι→Prop} {μ:ι→Nat} {i:ι} {σ:AS} (i':ι) (π:Nat→Nat) (h1:good i') (h2:μ i'<μ i) (h0: ∀ i,i<n0→π i=i) (hi: ∀ i j,i<nx→j<nx→π i=π j→i=j)
 (h3:fitsTR π σ.tmp nx (T i')) (h4:fitsMR π σ.mem nx (M i')):Again n0 T M nx good μ i σ:=⟨i',h1,h2,π,h0,hi,h3,h4⟩
theorem a_some {all rest:List Oper} {d:Tmp} {op:Op} {ty:TypeId} {pos:String} {af:Array Edge} {tmp:Nat→PV} {mem:Mem} {nx:Nat} {K:AS→Prop}
 (h: ∀ Kn:PV→Mem→Nat→Prop,(∀ r m n,arun P Γ all rest ⟨upd tmp d r,m,n⟩ K→Kn r m n)→aop P Γ (evT tmp) op mem nx Kn):arun P Γ all (⟨some d,op,ty,pos,af,none⟩::rest) ⟨tmp,mem,nx⟩ K :=
 h _ fun _ _ _ h=>h
theorem a_none {all rest:List Oper} {op:Op} {ty:TypeId} {pos:String} {af:Array Edge} {tmp:Nat→PV} {mem:Mem} {nx:Nat} {K:AS→Prop}
 (h: ∀ Kn:PV→Mem→Nat→Prop,(∀ r m n,arun P Γ all rest ⟨tmp,m,n⟩ K→Kn r m n)→aop P Γ (evT tmp) op mem nx Kn):arun P Γ all (⟨none,op,ty,pos,af,none⟩::rest) ⟨tmp,mem,nx⟩ K :=
 h _ fun _ _ _ h=>h
theorem c_some {all rest:List Oper} {d:Tmp} {op:Op} {ty:TypeId} {pos:String} {af:Array Edge} {tmp:Nat→PV} {mem:Mem} {K:(Nat→PV)→Prop}
 (h: ∀ Kn:PV→Prop,(∀ r,acalm P G all mem rest (upd tmp d r) K→Kn r)→aopc P G (evT tmp) op mem Kn):acalm P G all mem (⟨some d,op,ty,pos,af,none⟩::rest) tmp K :=
 h _ fun _ h=>h
end
/-- Functions that are never called with arguments of which the contract speaks. -/
theorem pure_never {P:Program} {f:FuncId} {R:PC} (hf: ∃ fn,P.funcs[f]?=some fn∧fn.body.isNone=false∧(fn.name == "runtime.NumGoroutine")=false) (h: ∀ args K,¬ R args K):PureOk P f R :=
 ⟨hf,fun args K h'=>absurd h' (h args K),fun _ _ _ K _ _ h'=>absurd h' (h _ K)⟩
theorem fin_ret {P:Program} {rs:List ResultVar} {K:PV→Prop} {σ:AS} (h:aRes P σ rs fun us=>(res σ.mem (packR us)).nmb 0=true∧K (res σ.mem (packR us))):FinP P rs K .ret σ:=h
theorem fin_end {P:Program} {rs:List ResultVar} {K:PV→Prop} {σ:AS} (h:aRes P σ rs fun us=>(res σ.mem (packR us)).nmb 0=true∧K (res σ.mem (packR us))):FinP P rs K .normal σ:=h
/-- A function that only computes, by its body: the table of the functions that it calls. -/
theorem pure_body {P:Program} {G:PCtr} (hG: ∀ f R,G f=some R→PureOk P f R) (hm:P.follows .mixedOrders=true) {f:FuncId} {fn:Func} {code:Code} (rs:List ResultVar) (hf:P.funcs[f]?=some fn) (hb:fn.body=some code) (hrs:fn.results.toList=rs) (hN:codeN fn.ntmps code=true)
 (hname:(fn.name == "runtime.NumGoroutine")=false) {R:PC} (hfun: ∀ args,Fun (R args)) (hsz: ∀ args K,R args K→args.length≤fn.ntmps)
 (h: ∀ args K,R args K→awp P G (Γof G) 0 code (FinP P rs K) (entry args (fun _=>none) 0)):PureOk P f R:=by
 subst hrs
 refine pure_of_body (Γ:=Γof G) (G:=G) (fun f C h=>?_) hG hm hf hb hN hname hfun hsz h
 unfold Γof at h
 cases hg:G f with
 | none=>rw [hg] at h;cases h
 | some R=>rw [hg] at h;cases h;exact pure_ok (hG f R hg)
/-- A table of contracts. -/
def tab:List (FuncId×PC)→PCtr
 | [],_=>none
 | (g,R)::r,f=>if f=g then some R else tab r f
theorem tab_nil {P:Program}: ∀ f R,tab [] f=some R→PureOk P f R:=fun _ _ h=>by cases h
theorem tab_cons {P:Program} {g:FuncId} {S:PC} {r:List (FuncId×PC)} (h:PureOk P g S) (hr: ∀ f R,tab r f=some R→PureOk P f R): ∀ f R,tab ((g,S)::r) f=some R→PureOk P f R:=by
 intro f R hf
 simp only [tab] at hf
 split at hf
 · rename_i e;subst e;cases hf;exact h
 · exact hr f R hf
/-- A contract: the arguments stand for x, and the result for 'out x'. -/
def rel {α:Type} (enc:α→List PV) (pre:α→Prop) (out:α→PV):PC:=fun args K=> ∃ x,args=enc x∧pre x∧K (out x)
theorem pure_rel {P:Program} {G:PCtr} (m:Nat) (hG: ∀ f R,G f=some R→PureOk P f R) (hm:P.follows .mixedOrders=true) {f:FuncId} {fn:Func} {code:Code} (rs:List ResultVar) (hf:P.funcs[f]?=some fn) (hb:fn.body=some code) (hrs:fn.results.toList=rs) (hN:codeN fn.ntmps code=true)
 (hname:(fn.name == "runtime.NumGoroutine")=false) {α:Type} {enc:α→List PV} {pre:α→Prop} {out:α→PV} (hl: ∀ x,(enc x).length=m) (hle:Nat.ble m fn.ntmps=true)
 (h: ∀ x K,pre x→K (out x)→awp P G (Γof G) 0 code (FinP P rs K) (entry (enc x) (fun _=>none) 0)):PureOk P f (rel enc pre out):=by
 refine pure_body hG hm rs hf hb hrs hN hname ?_ ?_ ?_
 · rintro args K ⟨x,h1,h2,h3⟩;exact ⟨_,h3,fun K' hk=>⟨x,h1,h2,hk⟩⟩
 · rintro args K ⟨x,rfl,_,_⟩;rw [hl];exact Nat.le_of_ble_eq_true hle
 · rintro args K ⟨x,rfl,h2,h3⟩;exact h x K h2 h3
/-- A table with contracts that speak of memory ahead. -/
def tabA:List (FuncId×AC)→Ctr→Ctr
 | [],Γ,f=>Γ f
 | (g,C)::r,Γ,f=>if f=g then some C else tabA r Γ f
theorem tabA_nil {P:Program} {Γ:Ctr} (h: ∀ f C,Γ f=some C→ACok P f C): ∀ f C,tabA [] Γ f=some C→ACok P f C:=h
theorem tabA_cons {P:Program} {g:FuncId} {S:AC} {r:List (FuncId×AC)} {Γ:Ctr} (h:ACok P g S) (hr: ∀ f C,tabA r Γ f=some C→ACok P f C): ∀ f C,tabA ((g,S)::r) Γ f=some C→ACok P f C:=by
 intro f R hf
 simp only [tabA] at hf
 split at hf
 · rename_i e;subst e;cases hf;exact h
 · exact hr f R hf
theorem Γof_ok {P:Program} {G:PCtr} (hG: ∀ f R,G f=some R→PureOk P f R): ∀ f C,Γof G f=some C→ACok P f C:=by
 intro f C h
 unfold Γof at h
 cases hg:G f with
 | none=>rw [hg] at h;cases h
 | some R=>rw [hg] at h;cases h;exact pure_ok (hG f R hg)
theorem pure_relA {P:Program} {Γ:Ctr} {G:PCtr} (m:Nat) (hΓ: ∀ f C,Γ f=some C→ACok P f C) (hG: ∀ f R,G f=some R→PureOk P f R) (hm:P.follows .mixedOrders=true) {f:FuncId} {fn:Func} {code:Code} (rs:List ResultVar) (hf:P.funcs[f]?=some fn) (hb:fn.body=some code) (hrs:fn.results.toList=rs) (hN:codeN fn.ntmps code=true)
 (hname:(fn.name == "runtime.NumGoroutine")=false) {α:Type} {enc:α→List PV} {pre:α→Prop} {out:α→PV} (hl: ∀ x,(enc x).length=m) (hle:Nat.ble m fn.ntmps=true)
 (h: ∀ x K,pre x→K (out x)→awp P G Γ 0 code (FinP P rs K) (entry (enc x) (fun _=>none) 0)):PureOk P f (rel enc pre out):=by
 subst hrs
 refine pure_of_body hΓ hG hm hf hb hN hname ?_ ?_ ?_
 · rintro args K ⟨x,h1,h2,h3⟩;exact ⟨_,h3,fun K' hk=>⟨x,h1,h2,hk⟩⟩
 · rintro args K ⟨x,rfl,_,_⟩;rw [hl];exact Nat.le_of_ble_eq_true hle
 · rintro args K ⟨x,rfl,h2,h3⟩;exact h x K h2 h3
/-- A function that speaks of memory, by its body. -/
theorem ac_body {P:Program} {Γ:Ctr} {G:PCtr} (m:Nat) (hΓ: ∀ f C,Γ f=some C→ACok P f C) (hG: ∀ f R,G f=some R→PureOk P f R) (hm:P.follows .mixedOrders=true) {f:FuncId} {fn:Func} {code:Code} (rs:List ResultVar) (hf:P.funcs[f]?=some fn) (hb:fn.body=some code) (hrs:fn.results.toList=rs) (hN:codeN fn.ntmps code=true)
 (hname:(fn.name == "runtime.NumGoroutine")=false) {C:AC} (hl: ∀ args mem n K,C args mem n K→args.length=m) (hle:Nat.ble m fn.ntmps=true)
 (h: ∀ args mem n K,C args mem n K→awp P G Γ n code (Fin P rs K) (entry args mem n)):ACok P f C:=by
 subst hrs
 refine ⟨⟨fn,hf,by rw [hb];rfl,hname⟩,fun c mem n args vs K hI hn hr hC=>?_⟩
 exact calls_of_body hΓ hG hm hf hb hN hI hn hr (by rw [hl args mem n K hC];exact Nat.le_of_ble_eq_true hle) (h args mem n K hC)
theorem fin_retA {P:Program} {rs:List ResultVar} {K:PV→Mem→Nat→Prop} {σ:AS} (h:aRes P σ rs fun us=>K (packR us) σ.mem σ.nx):Fin P rs K .ret σ:=h
theorem never_rel {P:Program} {f:FuncId} {fn:Func} (hf:P.funcs[f]?=some fn) (hb:fn.body.isNone=false) (hname:(fn.name == "runtime.NumGoroutine")=false) {α:Type} {enc:α→List PV} {pre:α→Prop} {out:α→PV} (h: ∀ x,¬ pre x):PureOk P f (rel enc pre out) :=
 pure_never ⟨fn,hf,hb,hname⟩ fun _ _ ⟨x,_,hx,_⟩=>h x hx
/-- A world in which these variables hold numbers. -/
def GlobW (w:World):Prop:= ∀ g ∈ globs,g<w.heap.size∧ ∃ m:Int,w.cell? ⟨g,0,none⟩=some (.int .i64 m)
theorem GlobW.ok {w:World} (h:GlobW w):FzOk ⟨w,fun b=>b<w.heap.size,fun _=>none⟩:=⟨fun _ h=>h,h⟩
/-- What such a contract says of a call. -/
theorem rel_calls {P:Program} {f:FuncId} {α:Type} {enc:α→List PV} {pre:α→Prop} {out:α→PV} (h:PureOk P f (rel enc pre out)) (x:α) (hp:pre x) (w:World) (hg:GlobW w) {vs:List Value} (hr:RepL (enc x) ⟨w,fun b=>b<w.heap.size,fun _=>none⟩ vs) :
 Calls P f vs.toArray w fun e w'=> ∃ v,e= .returned v∧Rep (out x) ⟨w',fun b=>b<w'.heap.size,fun _=>none⟩ v∧Below w.heap.size w w':=by
 refine (h.run ⟨w,fun b=>b<w.heap.size,fun _=>none⟩ (enc x) vs (fun r=>r=out x) hg.ok hr ⟨x,rfl,hp,rfl⟩).mono ?_
 rintro e w' ⟨v,r,rfl,rfl,hb,hrep⟩
 have hrep2:Rep (out x) ⟨w',fun b=>b<w.heap.size∨w.heap.size≤b∧b<w'.heap.size,fun _=>none⟩ v:=hrep
 have hle:Cx.Le ⟨w',fun b=>b<w.heap.size∨w.heap.size≤b∧b<w'.heap.size,fun _=>none⟩ ⟨w',fun b=>b<w'.heap.size,fun _=>none⟩ :=
  ⟨fun b h=>h.elim (fun h=>Nat.lt_of_lt_of_le h hb.size) (fun h=>h.2),fun _ _ _=>rfl,fun _ _ h=>h⟩
 exact ⟨v,rfl,Rep.mono _ hle hrep2,hb⟩
/-- An older contract, of a function whose result is data. -/
theorem rel_of_calls {P:Program} {f:FuncId} (hfn: ∃ fn,P.funcs[f]?=some fn∧fn.body.isNone=false∧(fn.name == "runtime.NumGoroutine")=false) {α:Type} {enc:α→List PV} {pre:α→Prop} {out:α→PV}
 (h: ∀ (c:Cx) (x:α) (vs:List Value),FzOk c→pre x→RepL (enc x) c.data vs→Calls P f vs.toArray c.w fun e w'=> ∃ v,e= .returned v∧Rep (out x) ⟨w',fun b=>c.fz b∨c.w.heap.size≤b∧b<w'.heap.size,fun _=>none⟩ v∧Below c.w.heap.size c.w w'):PureOk P f (rel enc pre out):=by
 refine ⟨hfn,?_,?_⟩
 · rintro args K ⟨x,h1,h2,h3⟩;exact ⟨_,h3,fun K' hk=>⟨x,h1,h2,hk⟩⟩
 · rintro c args vs K hf hr ⟨x,rfl,hp,hK⟩
   refine (h c x vs hf hp hr).mono ?_
   rintro e w' ⟨v,rfl,h1,h2⟩
   exact ⟨v,_,rfl,hK,h2,h1⟩
theorem K_int {K:PV→Prop} {a b:Int} (hK:K (.int .i64 a)) (h:a=b):K (.int .i64 b):=h ▸ hK
theorem K_bool {K:PV→Prop} {a b:Bool} (hK:K (.bool a)) (h:a=b):K (.bool b):=h ▸ hK
theorem K_str {K:PV→Prop} {a b:List UInt8} (hK:K (.str a)) (h:a=b):K (.str b):=h ▸ hK
theorem K_eq {K:PV→Prop} {a b:PV} (hK:K a) (h:a=b):K b:=h ▸ hK
theorem aPick_t {a b:PV} {K:PV→Prop}:aPick (.bool true) a b K=K a:=by simp [aPick]
theorem aPick_f {a b:PV} {K:PV→Prop}:aPick (.bool false) a b K=K b:=by simp [aPick]
theorem toNat_succ (k:Nat):((k:Int)+1).toNat=k+1:=by omega
theorem upd_def {α:Type} (f:Nat→α) (i:Nat) (v:α) (j:Nat):upd f i v j=if j=i then v else f j:=rfl
section
variable {P:Program} {G:PCtr} {Γ:Ctr} {n0:Nat}
/-- A test: what follows if it is as wanted, what follows otherwise. -/
def gsel (u:PV) (w:Bool) (p q:Prop):Prop:=match u with
 | .bool b=>(b=w→p)∧(b≠w→q)
 | .tup []=>q
 | _=>False
theorem qj1 {p q:Prop} (h:p):gsel (.bool true) true p q:=⟨fun _=>h,fun h=>absurd rfl h⟩
theorem qj2 {p q:Prop} (h:p):gsel (.bool false) false p q:=⟨fun _=>h,fun h=>absurd rfl h⟩
theorem qj3 {p q:Prop} (h:q):gsel (.bool true) false p q:=⟨fun h=>(by cases h),fun _=>h⟩
theorem qj4 {p q:Prop} (h:q):gsel (.bool false) true p q:=⟨fun h=>(by cases h),fun _=>h⟩
theorem qj5 {w:Bool} {p q:Prop} (h:q):gsel (.tup []) w p q:=h
theorem qj6 {b w:Bool} {p q:Prop} (h1:b=true→gsel (.bool true) w p q) (h2:b=false→gsel (.bool false) w p q):gsel (.bool b) w p q:=by
 cases b
 · exact h2 rfl
 · exact h1 rfl
theorem qg1 {all:List Oper} {tmp:Nat→PV} {j:Nat} {w:Bool} {t:Tmp} {u:PV} {p q:Prop} (hg:gdst all j=some t) (ht:tmp t=u) (h:gsel u w p q):aG all tmp (some (j,w)) p q:=by
 unfold aG
 simp only [hg,ht]
 exact h
theorem qu1 {all rest:List Oper} {d:Tmp} {op:Op} {ty:TypeId} {pos:String} {af:Array Edge} {g:Nat×Bool} {tmp:Nat→PV} {mem:Mem} {nx:Nat} {K:AS→Prop}
 (h:aG all tmp (some g) (aop P Γ (evT tmp) op mem nx fun r m n=>arun P Γ all rest ⟨upd tmp d r,m,n⟩ K) (arun P Γ all rest ⟨upd tmp d (.tup []),mem,nx⟩ K)):arun P Γ all (⟨some d,op,ty,pos,af,some g⟩::rest) ⟨tmp,mem,nx⟩ K:=h
theorem qu2 {all rest:List Oper} {d:Tmp} {op:Op} {ty:TypeId} {pos:String} {af:Array Edge} {g:Nat×Bool} {tmp:Nat→PV} {mem:Mem} {K:(Nat→PV)→Prop}
 (h:aG all tmp (some g) (aopc P G (evT tmp) op mem fun r=>acalm P G all mem rest (upd tmp d r) K) (acalm P G all mem rest (upd tmp d (.tup [])) K)):acalm P G all mem (⟨some d,op,ty,pos,af,some g⟩::rest) tmp K:=h
theorem qh1 {ev:Operand→PV} {op:Op} {mem:Mem} {nx:Nat} {K:PV→Mem→Nat→Prop} (h: ∀ Kn:PV→Mem→Nat→Prop,(∀ r m n,K r m n→Kn r m n)→aop P Γ ev op mem nx Kn):aop P Γ ev op mem nx K:=h K fun _ _ _ h=>h
theorem qh2 {ev:Operand→PV} {op:Op} {mem:Mem} {K:PV→Prop} (h: ∀ Kn:PV→Prop,(∀ r,K r→Kn r)→aopc P G ev op mem Kn):aopc P G ev op mem K:=h K fun _ h=>h
theorem qcd {c:Operand} {a b:Code} {Q:AX→AS→Prop} {tmp:Nat→PV} {mem:Mem} {nx:Nat} {t:Bool} (ht:evT tmp c= .bool t) (h:gsel (.bool t) true (awp P G Γ n0 a Q ⟨tmp,mem,nx⟩) (awp P G Γ n0 b Q ⟨tmp,mem,nx⟩)):awp P G Γ n0 (.cond c a b) Q ⟨tmp,mem,nx⟩:=by
 show aCond (evT tmp c) _ _
 rw [ht]
 exact ⟨fun e=>h.1 e,fun e=>h.2 (by rw [e];decide)⟩
theorem qa1 {all rest:List Oper} {d:Tmp} {op:Op} {ty:TypeId} {pos:String} {af:Array Edge} {tmp:Nat→PV} {mem:Mem} {nx:Nat} {K:AS→Prop}
 (h: ∀ Kn:PV→Mem→Nat→Prop,(∀ r m n,arun P Γ all rest ⟨upd tmp d r,m,n⟩ K→Kn r m n)→aop P Γ (evT tmp) op mem nx Kn):arun P Γ all (⟨some d,op,ty,pos,af,none⟩::rest) ⟨tmp,mem,nx⟩ K:=a_some h
theorem qa2 {all rest:List Oper} {op:Op} {ty:TypeId} {pos:String} {af:Array Edge} {tmp:Nat→PV} {mem:Mem} {nx:Nat} {K:AS→Prop}
 (h: ∀ Kn:PV→Mem→Nat→Prop,(∀ r m n,arun P Γ all rest ⟨tmp,m,n⟩ K→Kn r m n)→aop P Γ (evT tmp) op mem nx Kn):arun P Γ all (⟨none,op,ty,pos,af,none⟩::rest) ⟨tmp,mem,nx⟩ K:=a_none h
theorem qa3 {all rest:List Oper} {d:Tmp} {op:Op} {ty:TypeId} {pos:String} {af:Array Edge} {tmp:Nat→PV} {mem:Mem} {K:(Nat→PV)→Prop}
 (h: ∀ Kn:PV→Prop,(∀ r,acalm P G all mem rest (upd tmp d r) K→Kn r)→aopc P G (evT tmp) op mem Kn):acalm P G all mem (⟨some d,op,ty,pos,af,none⟩::rest) tmp K:=c_some h
theorem qw1 {a b:Code} {Q:AX→AS→Prop} {σ:AS} (h:awp P G Γ n0 a (AX.then (awp P G Γ n0 b Q) Q) σ):awp P G Γ n0 (.seq a b) Q σ:=h
theorem qw2 {Q:AX→AS→Prop} {σ:AS} (h:Q .normal σ):awp P G Γ n0 .skip Q σ:=h
theorem qw3 {id:Nat} {Q:AX→AS→Prop} {σ:AS} (h:Q (.exit id) σ):awp P G Γ n0 (.exit id) Q σ:=h
theorem qw4 {Q:AX→AS→Prop} {σ:AS} (h:Q .ret σ):awp P G Γ n0 .ret Q σ:=h
theorem qw5 {id:Nat} {c:Code} {Q:AX→AS→Prop} {σ:AS} (h:awp P G Γ n0 c (AX.inBlock id Q) σ):awp P G Γ n0 (.block id c) Q σ:=h
theorem qw6 {id:Nat} {ops:Array Oper} {Q:AX→AS→Prop} {σ:AS} (h:arun P Γ ops.toList ops.toList σ (Q .normal)):awp P G Γ n0 (.region id ops false) Q σ:=⟨none,h⟩
/-- .. and then what is known of some slots alone. -/
theorem qwc {id:Nat} {ops:Array Oper} {Q:AX→AS→Prop} {σ:AS} (lv:Nat→List Nat) (h:arun P Γ ops.toList ops.toList σ (cutK (some (lv id)) (Q .normal))):awp P G Γ n0 (.region id ops false) Q σ:=⟨some (lv id),h⟩
theorem qwd {all:List Oper} {tmp:Nat→PV} {mem:Mem} {nx:Nat} {l:List Nat} {K:AS→Prop} (h: ∀ Kn:(Nat→PV)→Prop,(∀ τ,K ⟨τ,mem,nx⟩→Kn τ)→Kn (mkT (l.map fun j=>(j,tmp j)))):arun P Γ all [] ⟨tmp,mem,nx⟩ (cutK (some l) K):=h _ fun _ h=>h
theorem qw7 {id:Nat} {ops:Array Oper} {Q:AX→AS→Prop} {tmp:Nat→PV} {mem:Mem} {nx:Nat} (hc:ops.all calmB=true) (hd:drawB ops ops.size=true)
 (h:acalm P G ops.toList mem ops.toList tmp fun tmp=>Q .normal ⟨tmp,mem,nx⟩):awp P G Γ n0 (.region id ops true) Q ⟨tmp,mem,nx⟩:=s_drawA hc hd h
theorem qw8 {all:List Oper} {σ:AS} {K:AS→Prop} (h:K σ):arun P Γ all [] σ K:=h
theorem qw9 {all:List Oper} {mem:Mem} {tmp:Nat→PV} {K:(Nat→PV)→Prop} (h:K tmp):acalm P G all mem [] tmp K:=h
/-- The memory at these names. -/
def rst:List Nat→Mem→Mem
 | [],_=>fun _=>none
 | j::r,m=>fun i=>if i=j then m i else rst r m i
theorem rst_nil (m:Mem) (i:Nat):rst [] m i=none:=rfl
theorem rst_cons (j:Nat) (r:List Nat) (m:Mem) (i:Nat):rst (j::r) m i=if i=j then m i else rst r m i:=rfl
theorem rst_sub: ∀ (ns:List Nat) (m:Mem),SubM (rst ns m) m
 | [],_,_,_,h=>by cases h
 | j::r,m,i,b,h=>by
   rw [rst_cons] at h
   split at h
   · exact h
   · exact rst_sub r m i b h
def mixL (ops:Array Oper) (cs ord:List Nat):List (Bool×Oper):=ord.map fun i=>(cs.contains i,ops.getD i default)
theorem qne {all:List Oper} {ops:Array Oper} {cs:List Nat} {mc:Mem} {σ:AS} {K:AS→Prop} (h:K σ):amix P G Γ all mc (mixL ops cs []) σ K:=h
/-- A region whose order is drawn, read in an order of one's own; ns: the names that calm operations read; cs: the places of these. -/
theorem qw10 {id:Nat} {ops:Array Oper} {Q:AX→AS→Prop} {tmp:Nat→PV} {mem:Mem} {nx:Nat} (ns:List Nat) (cs ord:List Nat) (hb:ordB ops ord (fun i=>cs.contains i)=true)
 (h:amix P G Γ ops.toList (rst ns mem) (mixL ops cs ord) ⟨tmp,mem,nx⟩ (Q .normal)):awp P G Γ n0 (.region id ops true) Q ⟨tmp,mem,nx⟩:= .inr (.inl ⟨rst ns mem,_,ord,hb,rst_sub ns mem,h⟩)
/-- .. along a tree of orders. -/
theorem qw11 {id:Nat} {ops:Array Oper} {Q:AX→AS→Prop} {tmp:Nat→PV} {mem:Mem} {nx:Nat} (ns:List Nat) (cs:List Nat) (T:MN) (hb:treeB ops (fun i=>cs.contains i) [] T=true)
 (h:amixN P G Γ ops (rst ns mem) T ⟨tmp,mem,nx⟩ (Q .normal)):awp P G Γ n0 (.region id ops true) Q ⟨tmp,mem,nx⟩:= .inr (.inr ⟨rst ns mem,_,T,hb,rst_sub ns mem,h⟩)
theorem qyn {ops:Array Oper} {mc:Mem} {cs:List Nat} {ch:MC} {σ:AS} {K:AS→Prop} (h:amix P G Γ ops.toList mc (cs.map fun i=>(true,ops.getD i default)) σ fun σ'=>amixC P G Γ ops mc ch σ' K):amixN P G Γ ops mc (.mk cs ch) σ K:=by
 rw [amixN];exact h
theorem qy0 {ops:Array Oper} {mc:Mem} {σ:AS} {K:AS→Prop} (h:K σ):amixC P G Γ ops mc .nil σ K:=by
 rw [amixC];exact h
theorem qy1 {ops:Array Oper} {mc:Mem} {i:Nat} {t:MN} {o:Oper} {σ:AS} {K:AS→Prop} (h2:ops[i]?=some o) (h:amix P G Γ ops.toList mc [(false,o)] σ fun σ'=>amixN P G Γ ops mc t σ' K):amixC P G Γ ops mc (.cons i t .nil) σ K:=by
 rw [amixC,show ops.getD i default=o by simp [Array.getD_eq_getD_getElem?,h2]];exact h
theorem qy2 {ops:Array Oper} {mc:Mem} {i j:Nat} {t u:MN} {r:MC} {o:Oper} {σ:AS} {K:AS→Prop} (h2:ops[i]?=some o) (h:amix P G Γ ops.toList mc [(false,o)] σ fun σ'=>amixN P G Γ ops mc t σ' K) (h':amixC P G Γ ops mc (.cons j u r) σ K):amixC P G Γ ops mc (.cons i t (.cons j u r)) σ K:=by
 rw [amixC,show ops.getD i default=o by simp [Array.getD_eq_getD_getElem?,h2]]
 · exact ⟨h,h'⟩
 · intro e;cases e
theorem qm0 {all:List Oper} {mc:Mem} {σ:AS} {K:AS→Prop} (h:K σ):amix P G Γ all mc [] σ K:=h
theorem qm1 {all:List Oper} {rest:List (Bool×Oper)} {mc:Mem} {d:Tmp} {op:Op} {ty:TypeId} {pos:String} {af:Array Edge} {tmp:Nat→PV} {mem:Mem} {nx:Nat} {K:AS→Prop}
 (h: ∀ Kn:PV→Prop,(∀ r,amix P G Γ all mc rest ⟨upd tmp d r,mem,nx⟩ K→Kn r)→aopd P G (evT tmp) op mc Kn):amix P G Γ all mc ((true,⟨some d,op,ty,pos,af,none⟩)::rest) ⟨tmp,mem,nx⟩ K:=h _ fun _ h=>h
theorem qm2 {all:List Oper} {rest:List (Bool×Oper)} {mc:Mem} {d:Tmp} {op:Op} {ty:TypeId} {pos:String} {af:Array Edge} {tmp:Nat→PV} {mem:Mem} {nx:Nat} {K:AS→Prop}
 (h: ∀ Kn:PV→Mem→Nat→Prop,(∀ r m n,SubM mc m∧amix P G Γ all mc rest ⟨upd tmp d r,m,n⟩ K→Kn r m n)→aop P Γ (evT tmp) op mem nx Kn):amix P G Γ all mc ((false,⟨some d,op,ty,pos,af,none⟩)::rest) ⟨tmp,mem,nx⟩ K :=
 ⟨_,h _ fun _ _ _ h=>h,fun _ _ _ h=>h⟩
theorem qm3 {all:List Oper} {rest:List (Bool×Oper)} {mc:Mem} {op:Op} {ty:TypeId} {pos:String} {af:Array Edge} {tmp:Nat→PV} {mem:Mem} {nx:Nat} {K:AS→Prop}
 (h: ∀ Kn:PV→Mem→Nat→Prop,(∀ r m n,SubM mc m∧amix P G Γ all mc rest ⟨tmp,m,n⟩ K→Kn r m n)→aop P Γ (evT tmp) op mem nx Kn):amix P G Γ all mc ((false,⟨none,op,ty,pos,af,none⟩)::rest) ⟨tmp,mem,nx⟩ K :=
 ⟨_,h _ fun _ _ _ h=>h,fun _ _ _ h=>h⟩
theorem qsub0 {m0 m:Mem}:SubM (rst [] m0) m:=fun _ _ h=>by cases h
theorem qsub1 {m0 m:Mem} {j:Nat} {r:List Nat} (h:m j=m0 j) (hr:SubM (rst r m0) m):SubM (rst (j::r) m0) m:=by
 intro i c hi
 rw [rst_cons] at hi
 split at hi
 · rename_i e;subst e;rw [h];exact hi
 · exact hr i c hi
theorem qk1 {ns:List Nat} {m0 m:Mem} {p:Prop} (hs:SubM (rst ns m0) m) (h:p):SubM (rst ns m0) m∧p:=⟨hs,h⟩
theorem qt1 {K:AS→Prop} {Q:AX→AS→Prop} {σ:AS} (h:K σ):AX.then K Q .normal σ:=h
theorem qt2 {K:AS→Prop} {Q:AX→AS→Prop} {σ:AS} {id:Nat} (h:Q (.exit id) σ):AX.then K Q (.exit id) σ:=h
theorem qt3 {K:AS→Prop} {Q:AX→AS→Prop} {σ:AS} (h:Q .ret σ):AX.then K Q .ret σ:=h
theorem qt4 {Q:AX→AS→Prop} {σ:AS} {id:Nat} (h:Q .normal σ):AX.inBlock id Q .normal σ:=h
theorem qt5 {Q:AX→AS→Prop} {σ:AS} {id:Nat} (h:Q .normal σ):AX.inBlock id Q (.exit id) σ:=⟨fun _=>h,fun h=>absurd rfl h⟩
theorem qt6 {Q:AX→AS→Prop} {σ:AS} {id:Nat} (h:Q .ret σ):AX.inBlock id Q .ret σ:=h
theorem qt7 {Q:AX→AS→Prop} {σ:AS} {id id':Nat} (hne:id'≠id) (h:Q (.exit id') σ):AX.inBlock id Q (.exit id') σ:=⟨fun e=>absurd e hne,fun _=>h⟩
end
theorem ai {a b:Prop} (hb:b) (h:a:=by first|omega|assumption|with_reducible rfl):a∧b:=⟨h,hb⟩
end Go.Proofs.YtnbjogilidfkdaaGreat

/- Contracts bounded by a weight, for every weight. -/
namespace Go.Proofs.YtnbjogilidfkdaaGreat
set_option maxRecDepth 100000
set_option linter.unusedVariables false
set_option linter.unusedSimpArgs false
open Go.RowKit
theorem rel_all {P:Program} {f:FuncId} {α:Type} {enc:α→List PV} (wt:α→Nat) {pre:α→Prop} {out:α→PV} (h: ∀ n,PureOk P f (rel enc (fun x=>wt x<n∧pre x) out)):PureOk P f (rel enc pre out):=by
 refine ⟨(h 0).fn,?_,?_⟩
 · rintro args K ⟨x,h1,h2,h3⟩;exact ⟨_,h3,fun K' hk=>⟨x,h1,h2,hk⟩⟩
 · rintro c args vs K hf hr ⟨x,h1,h2,h3⟩
   exact (h (wt x+1)).run c args vs K hf hr ⟨x,h1,⟨Nat.lt_succ_self _,h2⟩,h3⟩
end Go.Proofs.YtnbjogilidfkdaaGreat

/- Functions that work on one block of their caller's: proved over that block alone. No program. -/
namespace Go.Proofs.YtnbjogilidfkdaaGreat
set_option maxRecDepth 100000
set_option linter.unusedVariables false
set_option linter.unusedSimpArgs false
open Go.RowKit
/-- The context of a call: the name 0 stands for what i stands for. -/
def Cx.one (c:Cx) (i:Nat):Cx:=⟨c.w,c.fz,fun j=>if j<1 then c.ρ i else none⟩
theorem Names.one {c:Cx} {n i:Nat} (hn:Names c n):Names (c.one i) 1 :=
 ⟨fun j hj=>by simp only [Cx.one];rw [if_neg (by omega)],fun j v hj=>by
  simp only [Cx.one] at hj
  split at hj
  · exact hn.2 _ v hj
  · cases hj⟩
/-- Closed values stand for the same in any context of that world. -/
theorem Rep.any {u:PV} {c c':Cx} {v:Value} (h:Rep u c v) (hc:u.nmb 0=true) (hw:c'.w=c.w) (hf:c'.fz=c.fz):Rep u c' v:=by
 have h1:=h.to_data hc
 have:c'.data=c.data:=by simp only [Cx.data,hw,hf]
 rw [← this] at h1
 exact Rep.mono _ c'.data_le h1
theorem RepL.any {us:List PV} {c c':Cx} {vs:List Value} (h:RepL us c vs) (hc:nmbL 0 us=true) (hw:c'.w=c.w) (hf:c'.fz=c.fz):RepL us c' vs:=by
 have h1:=h.to_data hc
 have:c'.data=c.data:=by simp only [Cx.data,hw,hf]
 rw [← this] at h1
 exact RepL.mono _ c'.data_le h1
theorem MRep.move {c c':Cx} {a l:Nat} {S:Nat→Prop}: ∀ {mb:MB},MRep c a S mb→mb.nmb 0=true→c'.w=c.w→c'.fz=c.fz→c'.ρ l=c.ρ a→MRep c' l S mb
 | .box cs,⟨b,t,vs,h1,h2,h3,h4⟩,hc,hw,hf,hρ=>⟨b,t,vs,by rw [hρ];exact h1,by rw [hw];exact h2,h3.any (by simpa [MB.nmb] using hc) hw hf,h4⟩
 | .row e s es,⟨v,vs,h1,h2,h3,h4,h5⟩,hc,hw,hf,hρ=>⟨v,vs,by rw [hρ];exact h1,by rw [hw];exact h2,by
    have:c'.data=c.data:=by simp only [Cx.data,hw,hf]
    rw [this];exact h3,h4,h5⟩
 | .fro es,⟨v,h1,h2,h3⟩,hc,hw,hf,hρ=>⟨v,by rw [hρ];exact h1,h2.any rfl hw hf,h3⟩
 | .gen p d,⟨v,h1,h2⟩,hc,hw,hf,hρ=>⟨v,by rw [hρ];exact h1,by rw [hw];exact h2⟩
theorem InvM.one {c:Cx} {mem:Mem} {i:Nat} {b:MB} (h:InvM c mem) (hi:mem i=some b) (hb:b.nmb 0=true):InvM (c.one i) (mkM [(0,b)]):=by
 obtain ⟨hf,S,h1,h2,h3⟩:=h
 have hm: ∀ j mb,mkM [(0,b)] j=some mb→j=0∧mb=b:=by
  intro j mb hj
  simp only [mkM,upd] at hj
  split at hj
  · rename_i e;cases hj;exact ⟨e,rfl⟩
  · cases hj
 have hne: ∀ j,mkM [(0,b)] j≠none→j=0:=fun j hj=>by
  obtain ⟨mb,hmb⟩:=Option.ne_none_iff_exists'.1 hj
  exact (hm j mb hmb).1
 refine ⟨⟨hf.lt,hf.glob⟩,fun _=>S i,?_,?_,?_⟩
 · intro j mb hj
   obtain ⟨rfl,rfl⟩:=hm j mb hj
   exact MRep.move (h1 i _ hi) hb rfl rfl (by simp [Cx.one])
 · intro j k b' hj hk hjk
   exact absurd ((hne j hj).trans (hne k hk).symm) hjk
 · intro j b' _ hs
   exact h3 i b' (by rw [hi];simp) hs
/-- What a call over one block does to all memory: T tells which local name a global one now is. -/
theorem Step.lift {c c1:Cx} {mem m1 mem':Mem} {n n' k1 i:Nat} {b0:MB} {ρ':Nat→Option Value} (hI:InvM c mem) (hn:Names c n) (hi:mem i=some b0) (hb0:b0.nmb 0=true) (st:Step (c.one i) (mkM [(0,b0)]) 1 c1 m1 k1)
 (T:Nat→Option Nat) (hT: ∀ l a,T l=some a→l=i∧a=0∨l=n) (hinj: ∀ l l' a,T l=some a→T l'=some a→l=l')
 (hm: ∀ l mb,mem' l=some mb→(∃ a,T l=some a∧m1 a=some mb∧mb.nmb 0=true)∨T l=none∧l≠i∧l≠n∧mem l=some mb)
 (hρ: ∀ l,l<n→ρ' l=c.ρ l) (hρn: ∀ l,n'≤l→ρ' l=none) (hρT: ∀ a,T n=some a→ρ' n=c1.ρ a) (hρ1: ∀ v,ρ' n=some v→v.oneCell'=true) (hnn:n'=n∨n'=n+1) :
 Step c mem n ⟨c1.w,c1.fz,ρ'⟩ mem' n':=by
 classical
 have hin:i<n:=Nat.lt_of_not_le fun hle=>by
  obtain ⟨_,S,h1,_,_⟩:=hI
  obtain ⟨v,hv⟩:=(h1 i b0 hi).ρ
  rw [hn.1 i hle] at hv;cases hv
 obtain ⟨hf,S,h1,h2,h3⟩:=id hI
 obtain ⟨hf1,S1,g1,g2,g3⟩:=st.inv
 have hmine: ∀ b,Mine (c.one i) (mkM [(0,b0)]) b↔S i b:=by
  intro b
  have hr:MRep (c.one i) 0 (S i) b0:=MRep.move (h1 i _ hi) hb0 rfl rfl (by simp [Cx.one])
  constructor
  · rintro ⟨j,U,mb,hj,hR,hU⟩
    simp only [mkM,upd] at hj
    split at hj
    · rename_i e;subst e;cases hj
      have:=MRep.det hR hr
      subst this
      exact hU
    · cases hj
  · intro hb
    exact ⟨0,S i,b0,by simp [mkM,upd],hr,hb⟩
 have hle:c.Le ⟨c1.w,c1.fz,ρ'⟩:=⟨st.le.fz,fun b hb o=>st.le.cell b hb o,fun l v hl=>by
  have:l<n:=Nat.lt_of_not_le fun hle=>by rw [hn.1 l hle] at hl;cases hl
  show ρ' l=some v
  rw [hρ l this];exact hl⟩
 have hlt: ∀ l b,mem l≠none→S l b→b<c.w.heap.size:=by
  intro l b hl hb
  obtain ⟨mb,hmb⟩:=Option.ne_none_iff_exists'.1 hl
  exact (h1 l mb hmb).lt hb
 have hS1: ∀ a b,m1 a≠none→S1 a b→S i b∨c.w.heap.size≤b:=by
  intro a b ha hb
  obtain ⟨mb,hmb⟩:=Option.ne_none_iff_exists'.1 ha
  exact (st.mine b ⟨a,S1 a,mb,hmb,g1 a mb hmb,hb⟩).imp (hmine b).1 id
 -- what a global name has
 have hcase: ∀ l,mem' l≠none→(∃ a mb,T l=some a∧m1 a=some mb∧mem' l=some mb∧mb.nmb 0=true)∨(T l=none∧l≠i∧l≠n∧mem l≠none∧mem' l=mem l):=by
  intro l hl
  obtain ⟨mb,hmb⟩:=Option.ne_none_iff_exists'.1 hl
  rcases hm l mb hmb with ⟨a,h,h',h''⟩|⟨h,h',h'',h'''⟩
  · exact .inl ⟨a,mb,h,h',hmb,h''⟩
  · exact .inr ⟨h,h',h'',by rw [h'''];simp,by rw [hmb,h''']⟩
 have hblk: ∀ l b,mem l≠none→l≠i→S l b→c1.w.heap[b]?=c.w.heap[b]?:=by
  intro l b hl hli hb
  refine st.block b (hlt l b hl hb) (fun hm'=>?_)
  exact h2 l i b hl (by rw [hi];simp) hli hb ((hmine b).1 hm')
 have hrep: ∀ l mb,mem' l=some mb→MRep ⟨c1.w,c1.fz,ρ'⟩ l (match T l with|some a=>S1 a|none=>S l) mb:=by
  intro l mb hl
  rcases hm l mb hl with ⟨a,hTl,ha,hc⟩|⟨hTl,hli,hln,hl'⟩
  · rw [hTl]
    refine MRep.move (g1 a mb ha) hc rfl rfl ?_
    show ρ' l=c1.ρ a
    rcases hT l a hTl with ⟨rfl,rfl⟩|rfl
    · rw [hρ l hin,st.ρ 0 (by omega)];simp [Cx.one]
    · exact hρT a hTl
  · rw [hTl]
    exact MRep.mono hle (fun b hb=>hblk l b (by rw [hl'];simp) hli hb) (h1 l mb hl')
 refine ⟨⟨⟨hf1.lt,hf1.glob⟩,_,hrep,?_,?_⟩,hle,st.os,st.tape,st.output,st.size,fun b hb hm'=>st.block b hb (fun h=>hm' ⟨i,S i,b0,hi,h1 i b0 hi,(hmine b).1 h⟩),?_,
  fun b hb=>(st.fzNew b hb).imp id (fun h=>h.imp (fun h=>⟨i,S i,b0,hi,h1 i b0 hi,(hmine b).1 h⟩) id),by omega,hρ,⟨hρn,fun l v hl=>?_⟩⟩
 · intro l l' b hl hl' hne hb hb'
   rcases hcase l hl with ⟨a,mb,e1,e2,_⟩|⟨e1,e2,e3,e4,_⟩<;>rcases hcase l' hl' with ⟨a',mb',e1',e2',_⟩|⟨e1',e2',e3',e4',_⟩<;>rw [e1] at hb<;>rw [e1'] at hb'
   · have:a≠a':=fun e=>hne (hinj l l' a e1 (e ▸ e1'))
     exact g2 a a' b (by rw [e2];simp) (by rw [e2'];simp) this hb hb'
   · rcases hS1 a b (by rw [e2];simp) hb with h|h
     · exact h2 l' i b e4' (by rw [hi];simp) e2' hb' h
     · have:=hlt l' b e4' hb';omega
   · rcases hS1 a' b (by rw [e2'];simp) hb' with h|h
     · exact h2 l i b e4 (by rw [hi];simp) e2 hb h
     · have:=hlt l b e4 hb;omega
   · exact h2 l l' b e4 e4' hne hb hb'
 · intro l b hl hb
   rcases hcase l hl with ⟨a,mb,e1,e2,_⟩|⟨e1,e2,e3,e4,_⟩<;>rw [e1] at hb
   · exact g3 a b (by rw [e2];simp) hb
   · intro hfz
     rcases st.fzNew b hfz with h|h|h
     · exact h3 l b e4 hb h
     · exact h2 l i b e4 (by rw [hi];simp) e2 hb ((hmine b).1 h)
     · have h9:=hlt l b e4 hb
       have h8:c.w.heap.size≤b:=h
       omega
 · rintro b ⟨l,U,mb,hl,hR,hb⟩
   have e:=MRep.det hR (hrep l mb hl)
   subst e
   rcases hcase l (by rw [hl];simp) with ⟨a,mb',e1,e2,_⟩|⟨e1,e2,e3,e4,e5⟩<;>rw [e1] at hb
   · exact (hS1 a b (by rw [e2];simp) hb).imp (fun h=>⟨i,S i,b0,hi,h1 i b0 hi,h⟩) id
   · rw [hl] at e5
     exact .inl ⟨l,S l,mb,e5.symm,h1 l mb e5.symm,hb⟩
 · have hl3:ρ' l=some v:=hl
   have hl':l<n':=Nat.lt_of_not_le fun hle=>by have:=hρn l hle;rw [hl3] at this;cases this
   by_cases e:l=n
   · subst e;exact hρ1 v hl
   · have hl2:ρ' l=some v:=hl
     rw [hρ l (by omega)] at hl2
     exact hn.2 l v hl2
theorem frz_not: ∀ {is:List Nat} {m:Mem} {j:Nat},j ∉ is→frz m is j=m j
 | [],_,_,_=>rfl
 | i::is,m,j,h=>by
   show frz (frz1 m i) is j=m j
   rw [frz_not (fun h'=>h (by simp [h'])),frz1_other (fun e=>h (by simp [e]))]
/-- At the end: the block 0 is as b' says, and the result is plain. -/
def FinV (P:Program) (rs:List ResultVar) (K:PV→MB→Prop):AX→AS→Prop:=Fin P rs fun r mem _=>(res mem r).nmb 0=true∧0 ∉ owns r∧ ∃ b',mem 0=some b'∧b'.nmb 0=true∧K (res mem r) b'
/-- At the end: the block 0 is as b' says, and the result is a row of one's own. -/
def FinO (P:Program) (rs:List ResultVar) (K:List (List PV)→MB→Prop) (e:TypeId) (s:Nat):AX→AS→Prop:=Fin P rs fun r mem _=> ∃ j es b',r= .own j∧j≠0∧mem j=some (.row e s es)∧mem 0=some b'∧b'.nmb 0=true∧K es b'
/-- At the end: the result is a row of one's own; the block 0 is gone. -/
def FinX (P:Program) (rs:List ResultVar) (K:List (List PV)→Prop) (e:TypeId) (s:Nat):AX→AS→Prop:=Fin P rs fun r mem _=> ∃ j es,r= .own j∧mem j=some (.row e s es)∧K es
theorem repL_one {c:Cx} {i n:Nat} (hn:Names c n) (hi:i<n) {us:List PV} {v:Value} {vs:List Value} {off:Nat} (h:RepL (.ref i off::us) c (v::vs)) (hc:nmbL 0 us=true):RepL (.ref 0 off::us) (c.one i) (v::vs):=by
 rw [RepL.cons_iff] at h ⊢
 obtain ⟨x,xs,e,h1,h2⟩:=h
 refine ⟨x,xs,e,?_,h2.any hc rfl rfl⟩
 unfold Rep at *
 obtain ⟨u,b,a1,a2,a3⟩:=h1
 exact ⟨u,b,by simp [Cx.one,a1],a2,a3⟩
theorem repL_oneO {c:Cx} {i n:Nat} (hn:Names c n) (hi:i<n) {us:List PV} {v:Value} {vs:List Value} (h:RepL (.own i::us) c (v::vs)) (hc:nmbL 0 us=true):RepL (.own 0::us) (c.one i) (v::vs):=by
 rw [RepL.cons_iff] at h ⊢
 obtain ⟨x,xs,e,h1,h2⟩:=h
 refine ⟨x,xs,e,?_,h2.any hc rfl rfl⟩
 unfold Rep at *
 simp [Cx.one,h1]
/-- A function over one block that hands back plain data. -/
def locV {α:Type} (args:α→List PV) (B:α→MB) (pre:α→Prop) (post:α→PV→MB→Prop):AC:=fun as mem n K =>
 ∃ x i,as= .ref i 0::args x∧pre x∧mem i=some (B x)∧ ∀ r b',post x r b'→K r (upd mem i (some b')) n
/-- .. a row of one's own. -/
def locO {α:Type} (e:TypeId) (s:Nat) (args:α→List PV) (B:α→MB) (pre:α→Prop) (post:α→List (List PV)→MB→Prop):AC:=fun as mem n K =>
 ∃ x i,as= .ref i 0::args x∧pre x∧mem i=some (B x)∧ ∀ es b',post x es b'→K (.own n) (upd (upd mem i (some b')) n (some (.row e s es))) (n+1)
/-- A function that takes a row and hands back one. -/
def locX {α:Type} (e:TypeId) (s:Nat) (args:α→List PV) (B:α→MB) (pre:α→Prop) (post:α→List (List PV)→Prop):AC:=fun as mem n K =>
 ∃ x i,as= .own i::args x∧pre x∧mem i=some (B x)∧ ∀ es,post x es→K (.own n) (upd (upd mem i none) n (some (.row e s es))) (n+1)
section
variable {P:Program} {Γ:Ctr} {G:PCtr} {α:Type} {args:α→List PV} {B:α→MB} {pre:α→Prop}
theorem name_lt {c:Cx} {mem:Mem} {n i:Nat} {b:MB} (hI:InvM c mem) (hn:Names c n) (hi:mem i=some b):i<n:=Nat.lt_of_not_le fun hle=>by
 obtain ⟨_,S,h1,_,_⟩:=hI
 obtain ⟨v,hv⟩:=(h1 i b hi).ρ
 rw [hn.1 i hle] at hv;cases hv
theorem locV_ok {post:α→PV→MB→Prop} (m:Nat) (hΓ: ∀ f C,Γ f=some C→ACok P f C) (hG: ∀ f R,G f=some R→PureOk P f R) (hm:P.follows .mixedOrders=true) {f:FuncId} {fn:Func} {code:Code} (rs:List ResultVar) (hf:P.funcs[f]?=some fn) (hb:fn.body=some code) (hrs:fn.results.toList=rs) (hN:codeN fn.ntmps code=true)
 (hname:(fn.name == "runtime.NumGoroutine")=false) (hl: ∀ x,(args x).length+1=m) (hle:Nat.ble m fn.ntmps=true) (hca: ∀ x,nmbL 0 (args x)=true) (hcb: ∀ x,(B x).nmb 0=true)
 (h: ∀ x K,pre x→(∀ r b',post x r b'→K r b')→awp P G Γ 1 code (FinV P rs K) (entry (.ref 0 0::args x) (mkM [(0,B x)]) 1)):ACok P f (locV args B pre post):=by
 subst hrs
 refine ⟨⟨fn,hf,by rw [hb];rfl,hname⟩,fun c mem n as vs K hI hn hr hC=>?_⟩
 obtain ⟨x,i,rfl,hp,hi,hK⟩:=hC
 have hin:=name_lt hI hn hi
 obtain ⟨v,vs',rfl⟩: ∃ v vs',vs=v::vs':=by
  cases vs with
  | nil=>rw [RepL.cons_iff] at hr;obtain ⟨_,_,e,_⟩:=hr;cases e
  | cons v vs'=>exact ⟨v,vs',rfl⟩
 have hr1:=repL_one hn hin hr (hca x)
 refine (calls_of_body hΓ hG hm hf hb hN (hI.one hi (hcb x)) (Names.one hn) hr1 (by have:=hl x;rw [List.length_cons,this];exact Nat.le_of_ble_eq_true hle) (K:=fun r mem _=>(res mem r).nmb 0=true∧0 ∉ owns r∧ ∃ b',mem 0=some b'∧b'.nmb 0=true∧post x (res mem r) b') (h x (fun r b'=>post x r b') hp (fun _ _ h=>h))).mono ?_
 rintro e w' ⟨v',r,c1,m1,k1,rfl,rfl,⟨hr0,hno,b',hb1,hb2,hpost⟩,st,hrep⟩
 obtain ⟨c2,e1,e2,st2⟩:=Step.frz (owns r) st.inv st.free
 have hrep2:Rep (res m1 r) c2 v':=rep_res st2.inv (frz_fits m1 (owns r)) (Rep.mono _ st2.le hrep)
 have h0:frz m1 (owns r) 0=some b':=by rw [frz_not hno];exact hb1
 have stA:=st.trans st2
 refine ⟨v',_,⟨c2.w,c2.fz,c.ρ⟩,_,_,rfl,e1,hK _ _ hpost,?_,hrep2.any hr0 rfl rfl⟩
 refine Step.lift hI hn hi (hcb x) stA (fun l=>if l=i then some 0 else none) ?_ ?_ ?_ (fun _ _=>rfl) (fun l hl=>hn.1 l hl) ?_ ?_ (.inl rfl)
 · intro l a hl
   by_cases e:l=i
   · rw [if_pos e] at hl;cases hl;exact .inl ⟨e,rfl⟩
   · rw [if_neg e] at hl;cases hl
 · intro l l' a hl hl'
   by_cases e:l=i
   · by_cases e':l'=i
     · rw [e,e']
     · rw [if_neg e'] at hl';cases hl'
   · rw [if_neg e] at hl;cases hl
 · intro l mb hl
   by_cases e:l=i
   · subst e;rw [upd_same] at hl;cases hl;exact .inl ⟨0,if_pos rfl,h0,hb2⟩
   · rw [upd_other _ _ e] at hl
     refine .inr ⟨if_neg e,e,?_,hl⟩
     rintro rfl
     exact absurd (name_lt hI hn hl) (Nat.lt_irrefl _)
 · intro a ha
   rw [if_neg (by omega)] at ha;cases ha
 · intro v hv;rw [hn.1 n (Nat.le_refl _)] at hv;cases hv
theorem locO_ok {e:TypeId} {s:Nat} {post:α→List (List PV)→MB→Prop} (m:Nat) (hΓ: ∀ f C,Γ f=some C→ACok P f C) (hG: ∀ f R,G f=some R→PureOk P f R) (hm:P.follows .mixedOrders=true) {f:FuncId} {fn:Func} {code:Code} (rs:List ResultVar) (hf:P.funcs[f]?=some fn) (hb:fn.body=some code) (hrs:fn.results.toList=rs) (hN:codeN fn.ntmps code=true)
 (hname:(fn.name == "runtime.NumGoroutine")=false) (hl: ∀ x,(args x).length+1=m) (hle:Nat.ble m fn.ntmps=true) (hca: ∀ x,nmbL 0 (args x)=true) (hcb: ∀ x,(B x).nmb 0=true)
 (h: ∀ x K,pre x→(∀ es b',post x es b'→K es b')→awp P G Γ 1 code (FinO P rs K e s) (entry (.ref 0 0::args x) (mkM [(0,B x)]) 1)):ACok P f (locO e s args B pre post):=by
 subst hrs
 refine ⟨⟨fn,hf,by rw [hb];rfl,hname⟩,fun c mem n as vs K hI hn hr hC=>?_⟩
 obtain ⟨x,i,rfl,hp,hi,hK⟩:=hC
 have hin:=name_lt hI hn hi
 obtain ⟨v,vs',rfl⟩: ∃ v vs',vs=v::vs':=by
  cases vs with
  | nil=>rw [RepL.cons_iff] at hr;obtain ⟨_,_,e,_⟩:=hr;cases e
  | cons v vs'=>exact ⟨v,vs',rfl⟩
 have hr1:=repL_one hn hin hr (hca x)
 refine (calls_of_body hΓ hG hm hf hb hN (hI.one hi (hcb x)) (Names.one hn) hr1 (by have:=hl x;rw [List.length_cons,this];exact Nat.le_of_ble_eq_true hle) (K:=fun r mem _=> ∃ j es b',r= .own j∧j≠0∧mem j=some (.row e s es)∧mem 0=some b'∧b'.nmb 0=true∧post x es b') (h x (fun es b'=>post x es b') hp (fun _ _ h=>h))).mono ?_
 rintro e w' ⟨v',r,c1,m1,k1,rfl,rfl,⟨j,es,b',rfl,hj0,hj,hb1,hb2,hpost⟩,st,hrep⟩
 have hrj:c1.ρ j=some v':=by unfold Rep at hrep;exact hrep
 have hnm:mem n=none:=free_mem hI hn
 refine ⟨v',_,⟨c1.w,c1.fz,upd c.ρ n (some v')⟩,_,_,rfl,rfl,hK _ _ hpost,?_,by unfold Rep;exact upd_same _ _ _⟩
 refine Step.lift hI hn hi (hcb x) st (fun l=>if l=i then some 0 else if l=n then some j else none) ?_ ?_ ?_ (fun l hl=>upd_other _ _ (by omega)) (fun l hl=>by rw [upd_other _ _ (by omega)];exact hn.1 l (by omega)) ?_ ?_ (.inr rfl)
 · intro l a hl
   by_cases e:l=i
   · rw [if_pos e] at hl;cases hl;exact .inl ⟨e,rfl⟩
   · rw [if_neg e] at hl
     by_cases e':l=n
     · exact .inr e'
     · rw [if_neg e'] at hl;cases hl
 · intro l l' a hl hl'
   by_cases e:l=i
   · rw [if_pos e] at hl;cases hl
     by_cases e':l'=i
     · rw [e,e']
     · rw [if_neg e'] at hl'
       by_cases e2:l'=n
       · rw [if_pos e2] at hl';cases hl';exact absurd rfl hj0
       · rw [if_neg e2] at hl';cases hl'
   · rw [if_neg e] at hl
     by_cases e1:l=n
     · rw [if_pos e1] at hl;cases hl
       by_cases e':l'=i
       · rw [if_pos e'] at hl';cases hl';exact absurd rfl hj0
       · rw [if_neg e'] at hl'
         by_cases e2:l'=n
         · rw [e1,e2]
         · rw [if_neg e2] at hl';cases hl'
     · rw [if_neg e1] at hl;cases hl
 · intro l mb hl
   by_cases e:l=n
   · subst e;rw [upd_same] at hl;cases hl
     exact .inl ⟨j,by rw [if_neg (by omega),if_pos rfl],hj,rfl⟩
   · rw [upd_other _ _ e] at hl
     by_cases e':l=i
     · subst e';rw [upd_same] at hl;cases hl;exact .inl ⟨0,if_pos rfl,hb1,hb2⟩
     · rw [upd_other _ _ e'] at hl
       exact .inr ⟨by rw [if_neg e',if_neg e],e',e,hl⟩
 · intro a ha
   rw [if_neg (by omega),if_pos rfl] at ha;cases ha
   rw [upd_same];exact hrj.symm
 · intro v hv;rw [upd_same] at hv;cases hv;exact st.free.2 _ _ hrj
theorem locX_ok {e:TypeId} {s:Nat} {post:α→List (List PV)→Prop} (m:Nat) (hΓ: ∀ f C,Γ f=some C→ACok P f C) (hG: ∀ f R,G f=some R→PureOk P f R) (hm:P.follows .mixedOrders=true) {f:FuncId} {fn:Func} {code:Code} (rs:List ResultVar) (hf:P.funcs[f]?=some fn) (hb:fn.body=some code) (hrs:fn.results.toList=rs) (hN:codeN fn.ntmps code=true)
 (hname:(fn.name == "runtime.NumGoroutine")=false) (hl: ∀ x,(args x).length+1=m) (hle:Nat.ble m fn.ntmps=true) (hca: ∀ x,nmbL 0 (args x)=true) (hcb: ∀ x,(B x).nmb 0=true)
 (h: ∀ x K,pre x→(∀ es,post x es→K es)→awp P G Γ 1 code (FinX P rs K e s) (entry (.own 0::args x) (mkM [(0,B x)]) 1)):ACok P f (locX e s args B pre post):=by
 subst hrs
 refine ⟨⟨fn,hf,by rw [hb];rfl,hname⟩,fun c mem n as vs K hI hn hr hC=>?_⟩
 obtain ⟨x,i,rfl,hp,hi,hK⟩:=hC
 have hin:=name_lt hI hn hi
 obtain ⟨v,vs',rfl⟩: ∃ v vs',vs=v::vs':=by
  cases vs with
  | nil=>rw [RepL.cons_iff] at hr;obtain ⟨_,_,e,_⟩:=hr;cases e
  | cons v vs'=>exact ⟨v,vs',rfl⟩
 have hr1:=repL_oneO hn hin hr (hca x)
 refine (calls_of_body hΓ hG hm hf hb hN (hI.one hi (hcb x)) (Names.one hn) hr1 (by have:=hl x;rw [List.length_cons,this];exact Nat.le_of_ble_eq_true hle) (K:=fun r mem _=> ∃ j es,r= .own j∧mem j=some (.row e s es)∧post x es) (h x (fun es=>post x es) hp (fun _ h=>h))).mono ?_
 rintro e w' ⟨v',r,c1,m1,k1,rfl,rfl,⟨j,es,rfl,hj,hpost⟩,st,hrep⟩
 have hrj:c1.ρ j=some v':=by unfold Rep at hrep;exact hrep
 have hnm:mem n=none:=free_mem hI hn
 refine ⟨v',_,⟨c1.w,c1.fz,upd c.ρ n (some v')⟩,_,_,rfl,rfl,hK _ hpost,?_,by unfold Rep;exact upd_same _ _ _⟩
 refine Step.lift hI hn hi (hcb x) st (fun l=>if l=n then some j else none) ?_ ?_ ?_ (fun l hl=>upd_other _ _ (by omega)) (fun l hl=>by rw [upd_other _ _ (by omega)];exact hn.1 l (by omega)) ?_ ?_ (.inr rfl)
 · intro l a hl
   by_cases e':l=n
   · exact .inr e'
   · rw [if_neg e'] at hl;cases hl
 · intro l l' a hl hl'
   by_cases e1:l=n
   · by_cases e2:l'=n
     · rw [e1,e2]
     · rw [if_neg e2] at hl';cases hl'
   · rw [if_neg e1] at hl;cases hl
 · intro l mb hl
   by_cases e:l=n
   · subst e;rw [upd_same] at hl;cases hl
     exact .inl ⟨j,if_pos rfl,hj,rfl⟩
   · rw [upd_other _ _ e] at hl
     by_cases e':l=i
     · subst e';rw [upd_same] at hl;cases hl
     · rw [upd_other _ _ e'] at hl
       exact .inr ⟨if_neg e,e',e,hl⟩
 · intro a ha
   rw [if_pos rfl] at ha;cases ha
   rw [upd_same];exact hrj.symm
 · intro v hv;rw [upd_same] at hv;cases hv;exact st.free.2 _ _ hrj
end
section
variable {P:Program} {rs:List ResultVar} {σ:AS}
theorem fin_V {K:PV→MB→Prop} (h:aRes P σ rs fun us=>(res σ.mem (packR us)).nmb 0=true∧0 ∉ owns (packR us)∧ ∃ b',σ.mem 0=some b'∧b'.nmb 0=true∧K (res σ.mem (packR us)) b'):FinV P rs K .ret σ:=h
theorem fin_Ve {K:PV→MB→Prop} (h:aRes P σ rs fun us=>(res σ.mem (packR us)).nmb 0=true∧0 ∉ owns (packR us)∧ ∃ b',σ.mem 0=some b'∧b'.nmb 0=true∧K (res σ.mem (packR us)) b'):FinV P rs K .normal σ:=h
theorem fin_O {K:List (List PV)→MB→Prop} {e:TypeId} {s:Nat} (h:aRes P σ rs fun us=> ∃ j es b',packR us= .own j∧j≠0∧σ.mem j=some (.row e s es)∧σ.mem 0=some b'∧b'.nmb 0=true∧K es b'):FinO P rs K e s .ret σ:=h
theorem fin_Oe {K:List (List PV)→MB→Prop} {e:TypeId} {s:Nat} (h:aRes P σ rs fun us=> ∃ j es b',packR us= .own j∧j≠0∧σ.mem j=some (.row e s es)∧σ.mem 0=some b'∧b'.nmb 0=true∧K es b'):FinO P rs K e s .normal σ:=h
theorem fin_X {K:List (List PV)→Prop} {e:TypeId} {s:Nat} (h:aRes P σ rs fun us=> ∃ j es,packR us= .own j∧σ.mem j=some (.row e s es)∧K es):FinX P rs K e s .ret σ:=h
theorem fin_Xe {K:List (List PV)→Prop} {e:TypeId} {s:Nat} (h:aRes P σ rs fun us=> ∃ j es,packR us= .own j∧σ.mem j=some (.row e s es)∧K es):FinX P rs K e s .normal σ:=h
end
end Go.Proofs.YtnbjogilidfkdaaGreat

/- Results that are new rows; arguments that are lent. No program. -/
namespace Go.Proofs.YtnbjogilidfkdaaGreat
set_option maxRecDepth 100000
set_option linter.unusedVariables false
set_option linter.unusedSimpArgs false
open Go.RowKit
/-- A value without memory. -/
def plainU:PV→Bool
 | .int .. | .bool _| .str _=>true
 | _=>false
def plainV:PV→Bool
 | .agg cs=>cs.all plainU
 | .tup cs=>cs.all plainU
 | u=>plainU u
section
variable {P:Program}
variable {Γ:Ctr} {G:PCtr} {α:Type} {args:α→List PV} {pre:α→Prop}
end
end Go.Proofs.YtnbjogilidfkdaaGreat

/- Functions over one lent block, whatever their arguments; a variable that holds a row, as one block. No program. -/
namespace Go.Proofs.YtnbjogilidfkdaaGreat
set_option maxRecDepth 100000
set_option linter.unusedVariables false
set_option linter.unusedSimpArgs false
open Go.RowKit
theorem repL_oneG {c:Cx} {i:Nat} {us:List PV} {vs:List Value} (h:RepL (renL (fun _=>i) us) c vs) (hc:nmbL 1 us=true):RepL us (c.one i) vs:=RepL.nam us hc h
/-- A function over one block, that its arguments name somewhere; it hands back plain data. -/
def locG {α:Type} (args:α→List PV) (B:α→MB) (pre:α→Prop) (post:α→PV→MB→Prop):AC:=fun as mem n K =>
 ∃ x i,as=renL (fun _=>i) (args x)∧mem i=some (B x)∧pre x∧ ∀ r b',post x r b'→K r (upd mem i (some b')) n
section
variable {P:Program} {Γ:Ctr} {G:PCtr} {α:Type} {args:α→List PV} {B:α→MB} {pre:α→Prop}
/-- What a call over one block leaves behind. -/
theorem Step.liftV {c:Cx} {mem:Mem} {n i:Nat} {b0 b':MB} {c2:Cx} {m2:Mem} {k2:Nat} {r:PV} {v':Value} (hI:InvM c mem) (hn:Names c n) (hi:mem i=some b0) (hb0:b0.nmb 0=true)
 (stA:Step (c.one i) (mkM [(0,b0)]) 1 c2 m2 k2) (h0:m2 0=some b') (hb2:b'.nmb 0=true) (hr0:r.nmb 0=true) (hrep2:Rep r c2 v') :
 Step c mem n ⟨c2.w,c2.fz,c.ρ⟩ (upd mem i (some b')) n∧Rep r ⟨c2.w,c2.fz,c.ρ⟩ v':=by
 refine ⟨Step.lift hI hn hi hb0 stA (fun l=>if l=i then some 0 else none) ?_ ?_ ?_ (fun _ _=>rfl) (fun l hl=>hn.1 l hl) ?_ ?_ (.inl rfl),hrep2.any hr0 rfl rfl⟩
 · intro l a hl
   by_cases e:l=i
   · rw [if_pos e] at hl;cases hl;exact .inl ⟨e,rfl⟩
   · rw [if_neg e] at hl;cases hl
 · intro l l' a hl hl'
   by_cases e:l=i
   · by_cases e':l'=i
     · rw [e,e']
     · rw [if_neg e'] at hl';cases hl'
   · rw [if_neg e] at hl;cases hl
 · intro l mb hl
   by_cases e:l=i
   · subst e;rw [upd_same] at hl;cases hl;exact .inl ⟨0,if_pos rfl,h0,hb2⟩
   · rw [upd_other _ _ e] at hl
     refine .inr ⟨if_neg e,e,?_,hl⟩
     rintro rfl
     exact absurd (name_lt hI hn hl) (Nat.lt_irrefl _)
 · have hin:=name_lt hI hn hi
   intro a ha
   rw [if_neg (by omega)] at ha;cases ha
 · intro v hv;rw [hn.1 n (Nat.le_refl _)] at hv;cases hv
theorem locG_ok {post:α→PV→MB→Prop} (m:Nat) (hΓ: ∀ f C,Γ f=some C→ACok P f C) (hG: ∀ f R,G f=some R→PureOk P f R) (hm:P.follows .mixedOrders=true) {f:FuncId} {fn:Func} {code:Code} (rs:List ResultVar) (hf:P.funcs[f]?=some fn) (hb:fn.body=some code) (hrs:fn.results.toList=rs) (hN:codeN fn.ntmps code=true)
 (hname:(fn.name == "runtime.NumGoroutine")=false) (hl: ∀ x,(args x).length=m) (hle:Nat.ble m fn.ntmps=true) (hca: ∀ x,nmbL 1 (args x)=true) (hcb: ∀ x,(B x).nmb 0=true)
 (h: ∀ x K,pre x→(∀ r b',post x r b'→K r b')→awp P G Γ 1 code (FinV P rs K) (entry (args x) (mkM [(0,B x)]) 1)):ACok P f (locG args B pre post):=by
 subst hrs
 refine ⟨⟨fn,hf,by rw [hb];rfl,hname⟩,fun c mem n as vs K hI hn hr hC=>?_⟩
 obtain ⟨x,i,rfl,hi,hp,hK⟩:=hC
 refine (calls_of_body hΓ hG hm hf hb hN (hI.one hi (hcb x)) (Names.one hn) (repL_oneG hr (hca x)) (by rw [hl x];exact Nat.le_of_ble_eq_true hle) (K:=fun r mem _=>(res mem r).nmb 0=true∧0 ∉ owns r∧ ∃ b',mem 0=some b'∧b'.nmb 0=true∧post x (res mem r) b') (h x (fun r b'=>post x r b') hp (fun _ _ h=>h))).mono ?_
 rintro e w' ⟨v',r,c1,m1,k1,rfl,rfl,⟨hr0,hno,b',hb1,hb2,hpost⟩,st,hrep⟩
 obtain ⟨c2,e1,e2,st2⟩:=Step.frz (owns r) st.inv st.free
 have hrep2:Rep (res m1 r) c2 v':=rep_res st2.inv (frz_fits m1 (owns r)) (Rep.mono _ st2.le hrep)
 have h0:frz m1 (owns r) 0=some b':=by rw [frz_not hno];exact hb1
 obtain ⟨s1,s2⟩:=Step.liftV hI hn hi (hcb x) (st.trans st2) h0 hb2 hr0 hrep2
 exact ⟨v',_,⟨c2.w,c2.fz,c.ρ⟩,_,_,rfl,e1,hK _ _ hpost,s1,s2⟩
end
section
variable {P:Program} {Γ:Ctr} {G:PCtr} {α:Type} {args:α→List PV} {B:α→List (List PV)} {pre:α→Prop}
/-- At the end: the variable holds a row, and the result is plain. -/
def FinB (P:Program) (rs:List ResultVar) (K:PV→List (List PV)→Prop) (e:TypeId) (s:Nat):AX→AS→Prop:=Fin P rs fun r mem _=>plainV r=true∧ ∃ k es,mem 0=some (.box [.own k])∧mem k=some (.row e s es)∧es.all (·.all plainU)=true∧K r es
theorem fin_B {rs:List ResultVar} {σ:AS} {K:PV→List (List PV)→Prop} {e:TypeId} {s:Nat} (h:aRes P σ rs fun us=>plainV (packR us)=true∧ ∃ k es,σ.mem 0=some (.box [.own k])∧σ.mem k=some (.row e s es)∧es.all (·.all plainU)=true∧K (packR us) es):FinB P rs K e s .ret σ:=h
theorem fin_Be {rs:List ResultVar} {σ:AS} {K:PV→List (List PV)→Prop} {e:TypeId} {s:Nat} (h:aRes P σ rs fun us=>plainV (packR us)=true∧ ∃ k es,σ.mem 0=some (.box [.own k])∧σ.mem k=some (.row e s es)∧es.all (·.all plainU)=true∧K (packR us) es):FinB P rs K e s .normal σ:=h
end
end Go.Proofs.YtnbjogilidfkdaaGreat

/- A box of plain data is frozen; closures that lent blocks stand in: contracts in other words. No program. -/
namespace Go.Proofs.YtnbjogilidfkdaaGreat
set_option maxRecDepth 100000
set_option linter.unusedVariables false
set_option linter.unusedSimpArgs false
open Go.RowKit
/-- Never called. -/
theorem locG_never {P:Program} {f:FuncId} {α:Type} {args:α→List PV} {B:α→MB} {pre:α→Prop} {post:α→PV→MB→Prop} (hf: ∃ fn,P.funcs[f]?=some fn∧fn.body.isNone=false∧(fn.name == "runtime.NumGoroutine")=false) (h: ∀ x,¬ pre x):ACok P f (locG args B pre post) :=
 ⟨hf,fun c mem n as vs K hI hn hr hC=>by
  obtain ⟨x,i,_,_,hp,_⟩:=hC
  exact absurd hp (h x)⟩
end Go.Proofs.YtnbjogilidfkdaaGreat

/- Parts of templates: as data, their abstract cells, their weight. No program. -/
namespace Go.Proofs.YtnbjogilidfkdaaGreat
set_option maxRecDepth 100000
set_option linter.unusedVariables false
set_option linter.unusedSimpArgs false
open Go.RowKit
inductive PartD where
 | mk (kind:Int) (text name:List UInt8) (parts other:List PartD)
mutual
def encP:PartD→List PV
 | .mk k t n ps os=>[.int .i64 k,.str t,.str n,.seq (encPs ps),.seq (encPs os)]
def encPs:List PartD→List (List PV)
 | []=>[]
 | p::ps=>encP p::encPs ps
end
mutual
def wtP:PartD→Nat
 | .mk _ t n ps os=>t.length+n.length+wtL ps+wtL os
def wtL:List PartD→Nat
 | []=>0
 | x::xs=>1+wtP x+wtL xs
end
@[go_sem] theorem encPs_length: ∀ xs:List PartD,(encPs xs).length=xs.length
 | []=>by simp [encPs]
 | x::xs=>by simp [encPs,encPs_length xs]
theorem encPs_get: ∀ (xs:List PartD) (k:Nat),(encPs xs)[k]?=(xs[k]?).map encP
 | [],k=>by simp [encPs]
 | x::xs,0=>by simp [encPs]
 | x::xs,k+1=>by simp [encPs,encPs_get xs k]
theorem encPs_append: ∀ xs ys:List PartD,encPs (xs++ys)=encPs xs++encPs ys
 | [],ys=>by simp [encPs]
 | x::xs,ys=>by simp [encPs,encPs_append xs ys]
theorem encPs_nil:encPs []=[]:=by simp [encPs]
theorem encPs_one (x:PartD):encPs [x]=[encP x]:=by simp [encPs]
theorem encPs_map: ∀ xs:List PartD,encPs xs=xs.map encP
 | []=>by simp [encPs]
 | x::xs=>by simp [encPs,encPs_map xs]
theorem encP_mk (k:Int) (t n:List UInt8) (ps os:List PartD):encP (.mk k t n ps os)=[.int .i64 k,.str t,.str n,.seq (encPs ps),.seq (encPs os)]:=by simp [encP]
@[go_sem] theorem encP_length (x:PartD):(encP x).length=5:=by cases x;simp [encP]
@[go_sem] theorem encP_take (x:PartD):List.take 5 (encP x)=encP x:=by rw [List.take_of_length_le (by rw [encP_length];exact Nat.le_refl _)]
@[go_sem] theorem encP_nmb (n:Nat) (x:PartD):nmbL n (encP x)=true:=by cases x;simp [encP,nmbL,PV.nmb]
@[go_sem] theorem encP_res (m:Nat→Option MB) (x:PartD):(encP x).map (resC m)=encP x:=by cases x;simp [encP,resC,res1]
@[go_sem] theorem encP_owns (x:PartD):(encP x).flatMap ownsC=[]:=by cases x;simp [encP,ownsC,owns1]
@[go_sem] theorem encP_isCell (x:PartD):(encP x).all PV.isCell=true:=by cases x;simp [encP,PV.isCell]
theorem encPs_all (xs:List PartD): ∀ e ∈ encPs xs,e.length=5:=by
 rw [encPs_map]
 intro e he
 obtain ⟨x,_,rfl⟩:=List.mem_map.1 he
 exact encP_length x
mutual
theorem encP_inj: ∀ x y:PartD,encP x=encP y→x=y
 | .mk k t n ps os,.mk k' t' n' ps' os',h=>by
   simp only [encP,List.cons.injEq,PV.int.injEq,PV.str.injEq,PV.seq.injEq,and_true,true_and] at h
   obtain ⟨rfl,rfl,rfl,h1,h2⟩:=h
   rw [encPs_inj _ _ h1,encPs_inj _ _ h2]
theorem encPs_inj: ∀ xs ys:List PartD,encPs xs=encPs ys→xs=ys
 | [],[],_=>rfl
 | [],y::ys,h=>by simp [encPs] at h
 | x::xs,[],h=>by simp [encPs] at h
 | x::xs,y::ys,h=>by
   simp only [encPs,List.cons.injEq] at h
   rw [encP_inj _ _ h.1,encPs_inj _ _ h.2]
end
@[go_sem] theorem encPs_iff {xs ys:List PartD}:encPs xs=encPs ys↔xs=ys:=⟨encPs_inj xs ys,fun h=>by rw [h]⟩
@[go_sem] theorem encP_iff {xs ys:PartD}:encP xs=encP ys↔xs=ys:=⟨encP_inj xs ys,fun h=>by rw [h]⟩
theorem wtL_append: ∀ xs ys:List PartD,wtL (xs++ys)=wtL xs+wtL ys
 | [],ys=>by simp [wtL]
 | x::r,ys=>by simp only [List.cons_append,wtL,wtL_append r ys];omega
theorem len_le_wtL: ∀ xs:List PartD,xs.length≤wtL xs
 | []=>by simp
 | x::r=>by have:=len_le_wtL r;simp only [wtL,List.length_cons];omega
theorem wtL_nil:wtL []=0:=by simp [wtL]
theorem wtL_one (x:PartD):wtL [x]=1+wtP x:=by simp [wtL]
theorem wtP_mk (k:Int) (t n:List UInt8) (ps os:List PartD):wtP (.mk k t n ps os)=t.length+n.length+wtL ps+wtL os:=by simp [wtP]
theorem take_snoc' {α:Type} {xs:List α} {k:Nat} {x:α} (h:xs[k]?=some x):xs.take (k+1)=xs.take k++[x]:=by
 obtain ⟨h1,rfl⟩:=List.getElem?_eq_some_iff.1 h
 exact List.take_succ_eq_append_getElem h1
theorem get_some {α:Type} {xs:List α} {k:Nat} (h:k<xs.length): ∃ x,xs[k]?=some x:=⟨xs[k],List.getElem?_eq_getElem h⟩
theorem wtL_split {xs:List PartD} {k:Nat} {x:PartD} (h:xs[k]?=some x):wtL (xs.take k)+(1+wtP x)+wtL (xs.drop (k+1))=wtL xs:=by
 have h1:=take_snoc' h
 have h2:=wtL_append (xs.take (k+1)) (xs.drop (k+1))
 rw [List.take_append_drop,h1,wtL_append,wtL_one] at h2
 omega
end Go.Proofs.YtnbjogilidfkdaaGreat
