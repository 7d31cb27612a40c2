/- Regions whose order is drawn, with operations that change named memory: these stand in one order; calm ones stand anywhere between them. No program. -/
import Derived.Test.YtnbjogilidfkdaaGreatVF10

namespace Go.Proofs.YtnbjogilidfkdaaGreat
set_option maxRecDepth 100000
set_option linter.unusedVariables false
set_option linter.unusedSimpArgs false
open Go.RowKit
section
variable {P:Program} {G:PCtr}
/-- A slice of constants that no one changes. -/
def aBSliceD (P:Program) (t:TypeId) (len:Nat) (parts:List (Nat×PV)) (K:PV→Prop):Prop :=
 match elOf P t with
 | some (_,s,_)=>(match bsPV s 0 parts with
   | some es=>parts.length=len∧len * s≤16777216∧((es.map (·.map (resC fun _=>none))).all fun x=>x.all fun u=>u.isCell && u.nmb 0)=true∧K (.seq (es.map (·.map (resC fun _=>none))))
   | none=>False)
 | none=>False
def aopd (P:Program) (G:PCtr) (ev:Operand→PV) (op:Op) (mem:Mem) (K:PV→Prop):Prop :=
 match op with
 | .buildSlice t len ps=>aBSliceD P t len (ps.toList.map fun p=>(p.1,ev p.2)) K
 | op=>aopc P G ev op mem K
theorem aopd_def {ev:Operand→PV} {op:Op} {mem:Mem} {K:PV→Prop} (h: ∀ t len ps,op≠ .buildSlice t len ps):aopd P G ev op mem K=aopc P G ev op mem K:=by
 unfold aopd
 cases op<;>first|rfl|exact absurd rfl (h _ _ _)
theorem fun_opd (hG: ∀ f R,G f=some R→PureOk P f R) (ev:Operand→PV) (op:Op) (mem:Mem):Fun (aopd P G ev op mem):=by
 by_cases hb: ∃ t len ps,op= .buildSlice t len ps
 · obtain ⟨t,len,ps,rfl⟩:=hb
   intro K h
   simp only [aopd] at *
   unfold aBSliceD at *
   split at h
   · split at h
     · obtain ⟨a,b,c,d⟩:=h
       exact ⟨_,d,fun K' hk=>⟨a,b,c,hk⟩⟩
     · exact h.elim
   · exact h.elim
 · have hne: ∀ t len ps,op≠ .buildSlice t len ps:=fun t len ps e=>hb ⟨t,len,ps,e⟩
   have:aopd P G ev op mem=aopc P G ev op mem:=by funext K;exact aopd_def hne
   rw [this]
   exact fun_opc hG _ _ _
theorem aopd_congr {ev ev':Operand→PV} (op:Op) (mem:Mem) (K:PV→Prop) (h: ∀ x ∈ op.operands,ev x=ev' x):aopd P G ev op mem K=aopd P G ev' op mem K:=by
 by_cases hb: ∃ t len ps,op= .buildSlice t len ps
 · obtain ⟨t,len,ps,rfl⟩:=hb
   simp only [Op.operands] at h
   simp only [aopd]
   have:(ps.toList.map fun p=>(p.1,ev p.2))=ps.toList.map fun p=>(p.1,ev' p.2):=List.map_congr_left fun p hp=>by
    rw [h p.2 (by simpa using ⟨p.1,by simpa using hp⟩)]
   rw [this]
 · have hne: ∀ t len ps,op≠ .buildSlice t len ps:=fun t len ps e=>hb ⟨t,len,ps,e⟩
   rw [aopd_def hne,aopd_def hne]
   exact aopc_congr op mem K h
/-- Only draws and new blocks that never change: the step of a calm operation. -/
theorem opd_sound (hG: ∀ f R,G f=some R→PureOk P f R) {o:Oper} {a:Act} {c:Cx} {mem:Mem} {n:Nat} {ev:Operand→PV} {K:PV→Prop} {next:Act→World→Prop} {Q:Exit→Act→World→Prop}
 (h:aopd P G ev o.op mem K) (hev: ∀ x,Rep (ev x) c (a.eval x)) (hI:InvM c mem) (hn:Names c n)
 (hK: ∀ r c' v,K r→Step c mem n c' mem n→Rep r c' v→next (a.put o.dst v) c'.w):o.wp P a c.w next Q:=by
 by_cases hb: ∃ t len ps,o.op= .buildSlice t len ps
 · obtain ⟨t,len,ps,ho⟩:=hb
   obtain ⟨dst,op,type,pos,after,guard⟩:=o
   simp only at ho
   subst ho
   simp only [aopd] at h
   unfold aBSliceD at h
   cases he:elOf P t with
   | none=>rw [he] at h;exact h.elim
   | some q =>
   obtain ⟨e,s,by_⟩:=q
   rw [he] at h
   simp only at h
   cases hbs:bsPV s 0 (ps.toList.map fun p=>(p.1,ev p.2)) with
   | none=>rw [hbs] at h;exact h.elim
   | some es =>
   rw [hbs] at h
   obtain ⟨h1,h2,h3,hK'⟩:=h
   have hp:RepP c.data (ps.toList.map fun p=>(p.1,ev p.2)) (ps.toList.map fun p=>(p.1,a.eval p.2))∨True:= .inr trivial
   have hP:=repP_ev hev ps.toList
   -- the operation, as one that makes a row, over no named memory
   have hI0:InvM c (fun _=>none):=⟨hI.1,fun _ _=>False,(fun _ _ h=>by cases h),(fun _ _ _ h=>absurd rfl h),(fun _ _ h=>absurd rfl h)⟩
   have hown0:es.flatten.flatMap ownsC=[]∨True:= .inr trivial
   have hA:aBSlice P t len (ps.toList.map fun p=>(p.1,ev p.2)) (fun _=>none) n fun r m k=>r= .own n∧m n=some (.row e s (es.map (·.map (resC fun _=>none))))∧k=n+1:=by
    unfold aBSlice
    rw [he]
    simp only
    rw [hbs]
    refine ⟨h1,h2,h3,?_⟩
    simp [upd_same]
   obtain ⟨v,r,c',m',n',hrun,⟨rfl,hm',rfl⟩,hst,hrep⟩:=bslice_sound (vs:=ps.map fun p=>(p.1,a.eval p.2)) hA (by simpa using hP) hI0 hn
   obtain ⟨c2,e1,e2,st2⟩:=Step.frz [n] hst.inv hst.free
   have hm2:frz m' [n] n=some (.fro (es.map (·.map (resC fun _=>none)))):=frz_row [n] hm' (by simp)
   have hrep2:Rep (.seq (es.map (·.map (resC fun _=>none)))) c2 v:=rep_fro st2.inv hm2 (Rep.mono _ st2.le hrep)
   have st:=hst.trans st2
   have hno: ∀ b,¬ Mine c (fun _=>none) b:=by rintro b ⟨i,S,mb,h,_⟩;cases h
   -- back to the names of before
   let c3:Cx:=⟨c2.w,c2.fz,c.ρ⟩
   have hbel:Below c.w.heap.size c.w c2.w:=⟨st.os,st.tape,st.output,st.size,fun b hb=>st.block b hb (hno b)⟩
   have hstep:Step c mem n c3 mem n:=Step.later hI hn rfl (fun b hb=>st.le.fz b hb) hbel (fun b hb=>(st.fzNew b hb).imp id (fun h=>h.elim (fun h=>absurd h (hno b)) (fun h=>⟨h,st2.inv.1.lt b hb⟩)))
   have hrep3:Rep (.seq (es.map (·.map (resC fun _=>none)))) c3 v:=by
    unfold Rep at hrep2 ⊢
    exact hrep2
   show Oper.upon P _ a next Q ((execOp a.eval _).run P c.w)
   have hx:execOp a.eval (Oper.mk dst (.buildSlice t len ps) type pos after guard)=(do pure (.value (← Instr.buildSlice t len (ps.map fun p=>(p.1,a.eval p.2))))):=rfl
   rw [hx]
   simp only [Sem.run_bind,hrun,Result.andThen_ok,Sem.run_pure,Oper.upon_value]
   have:=hK _ c3 v hK' hstep hrep3
   show next (a.put dst v) c'.w
   have hw:c3.w=c'.w:=e1
   rw [← hw]
   exact this
 · have hne: ∀ t len ps,o.op≠ .buildSlice t len ps:=fun t len ps e=>hb ⟨t,len,ps,e⟩
   rw [aopd_def hne] at h
   have hΓ': ∀ f C,Γof G f=some C→ACok P f C:=by
    intro f C hf
    unfold Γof at hf
    cases hg:G f with
    | none=>rw [hg] at hf;cases hf
    | some R=>rw [hg] at hf;cases hf;exact pure_ok (hG f R hg)
   refine op_sound hΓ' (aop_of_calm (n:=n) h) hev hI hn (fun r c' m k v q1 q2 q3=>?_)
   obtain ⟨q1,rfl,rfl⟩:=q1
   exact hK r c' v q1 q2 q3
def SubM (mc m:Mem):Prop:= ∀ i mb,mc i=some mb→m i=some mb
theorem SubM.none (m:Mem):SubM (fun _=>none) m:=fun _ _ h=>by cases h
theorem SubM.refl (m:Mem):SubM m m:=fun _ _ h=>h
theorem SubM.mine {c:Cx} {mc m:Mem} (h:SubM mc m) {b:Nat}:Mine c mc b→Mine c m b:=fun ⟨i,S,mb,hi,hr,hs⟩=>⟨i,S,mb,h i mb hi,hr,hs⟩
theorem SubM.inv {c:Cx} {mc m:Mem} (h:SubM mc m) (hI:InvM c m):InvM c mc:=by
 obtain ⟨hf,S,h1,h2,h3⟩:=hI
 have hne: ∀ i,mc i≠ .none→m i≠ .none:=fun i hi=>by
  obtain ⟨mb,hmb⟩:=Option.ne_none_iff_exists'.1 hi
  rw [h i mb hmb];simp
 exact ⟨hf,S,fun i mb hi=>h1 i mb (h i mb hi),fun i j b hi hj=>h2 i j b (hne i hi) (hne j hj),fun i b hi=>h3 i b (hne i hi)⟩
/-- A step that keeps less memory, as one that keeps all. -/
theorem Step.more {c c':Cx} {mc mem:Mem} {n:Nat} (hI:InvM c mem) (hs:SubM mc mem) (st:Step c mc n c' mc n):Step c mem n c' mem n:=by
 classical
 obtain ⟨hf,S,h1,h2,h3⟩:=hI
 obtain ⟨hf',S',g1,g2,g3⟩:=st.inv
 have hmb: ∀ i mb mb',mc i=some mb'→mem i=some mb→mb'=mb:=fun i mb mb' a b=>by
  have:=hs i mb' a
  rw [b] at this
  exact (Option.some.inj this).symm
 have hmn: ∀ {i},mc i≠none→mem i≠none:=fun {i} hi=>by
  obtain ⟨mb,hmb⟩:=Option.ne_none_iff_exists'.1 hi
  rw [hs i mb hmb];simp
 -- a block of another name is none of theirs
 have hoth: ∀ j b,mem j≠none→mc j=none→S j b→ ¬ Mine c mc b:=by
  rintro j b hj hc hb ⟨k,T,mb,hk,hr,hT⟩
  have e:=MRep.det hr (h1 k mb (hs k mb hk))
  subst e
  have hkj:k≠j:=by rintro rfl;rw [hc] at hk;cases hk
  exact h2 k j b (by rw [hs k mb hk];simp) hj hkj hT hb
 have hlt: ∀ j b,mem j≠none→S j b→b<c.w.heap.size:=by
  intro j b hj hb
  obtain ⟨mb,hmb⟩:=Option.ne_none_iff_exists'.1 hj
  exact (h1 j mb hmb).lt hb
 have hrep: ∀ i mb,mem i=some mb→MRep c' i (if mc i=none then S i else S' i) mb:=by
  intro i mb hi
  by_cases hc:mc i=none
  · rw [if_pos hc]
    exact MRep.mono st.le (fun b hb=>st.block b (hlt i b (by rw [hi];simp) hb) (hoth i b (by rw [hi];simp) hc hb)) (h1 i mb hi)
  · rw [if_neg hc]
    obtain ⟨mb',hmb'⟩:=Option.ne_none_iff_exists'.1 hc
    have:=hmb i mb mb' hmb' hi
    subst this
    exact g1 i _ hmb'
 have hS': ∀ i b,mc i≠none→S' i b→Mine c mc b∨c.w.heap.size≤b:=by
  intro i b hi hb
  obtain ⟨mb,hmb⟩:=Option.ne_none_iff_exists'.1 hi
  exact st.mine b ⟨i,S' i,mb,hmb,g1 i mb hmb,hb⟩
 refine ⟨⟨hf',fun i=>if mc i=none then S i else S' i,hrep,?_,?_⟩,st.le,st.os,st.tape,st.output,st.size,fun b hb hm=>st.block b hb (fun h=>hm (hs.mine h)),?_,fun b hb=>(st.fzNew b hb).imp id (fun h=>h.imp hs.mine id),st.nx,st.ρ,st.free⟩
 · intro i j b hi hj hij hb hb'
   by_cases hci:mc i=none<;>by_cases hcj:mc j=none
   · rw [if_pos hci] at hb;rw [if_pos hcj] at hb';exact h2 i j b hi hj hij hb hb'
   · rw [if_pos hci] at hb;rw [if_neg hcj] at hb'
     rcases hS' j b hcj hb' with h|h
     · exact hoth i b hi hci hb h
     · have:=hlt i b hi hb;omega
   · rw [if_neg hci] at hb;rw [if_pos hcj] at hb'
     rcases hS' i b hci hb with h|h
     · exact hoth j b hj hcj hb' h
     · have:=hlt j b hj hb';omega
   · rw [if_neg hci] at hb;rw [if_neg hcj] at hb';exact g2 i j b hci hcj hij hb hb'
 · intro i b hi hb
   by_cases hci:mc i=none
   · rw [if_pos hci] at hb
     intro hfz
     rcases st.fzNew b hfz with h|h|h
     · exact h3 i b hi hb h
     · exact hoth i b hi hci hb h
     · have:=hlt i b hi hb;omega
   · rw [if_neg hci] at hb;exact g3 i b hci hb
 · rintro b ⟨i,T,mb,hi,hr,hb⟩
   have e:=MRep.det hr (hrep i mb hi)
   subst e
   by_cases hci:mc i=none
   · rw [if_pos hci] at hb;exact .inl ⟨i,S i,mb,hi,h1 i mb hi,hb⟩
   · rw [if_neg hci] at hb;exact (hS' i b hci hb).imp hs.mine id
/-- A calm operation, with its test. -/
def gpd (P:Program) (G:PCtr) (all:List Oper) (mc:Mem) (o:Oper) (tmp:Nat→PV) (K:PV→Prop):Prop :=
 aG all tmp o.guard (aopd P G (evT tmp) o.op mc K) (K (.tup []))
/-- One that changes memory, with its test. -/
def gpe (P:Program) (Γ:Ctr) (all:List Oper) (o:Oper) (tmp:Nat→PV) (mem:Mem) (n:Nat) (K:PV→Mem→Nat→Prop):Prop :=
 aG all tmp o.guard (∃ K0,aop P Γ (evT tmp) o.op mem n K0∧ ∀ r m k,K0 r m k→K r m k) (K (.tup []) mem n)
def amix (P:Program) (G:PCtr) (Γ:Ctr) (all:List Oper) (mc:Mem):List (Bool×Oper)→AS→(AS→Prop)→Prop
 | [],σ,K=>K σ
 | (true,o)::rest,σ,K=>gpd P G all mc o σ.tmp fun r=>amix P G Γ all mc rest ⟨putT σ.tmp o.dst r,σ.mem,σ.nx⟩ K
 | (false,o)::rest,σ,K=>gpe P Γ all o σ.tmp σ.mem σ.nx fun r m n=>SubM mc m∧amix P G Γ all mc rest ⟨putT σ.tmp o.dst r,m,n⟩ K
theorem gpe_mono {Γ:Ctr} {all:List Oper} {o:Oper} {tmp:Nat→PV} {mem:Mem} {n:Nat} {K K':PV→Mem→Nat→Prop} (hk: ∀ r m k,K r m k→K' r m k) (h:gpe P Γ all o tmp mem n K):gpe P Γ all o tmp mem n K':=by
 unfold gpe aG at *
 have hq:(∃ K0,aop P Γ (evT tmp) o.op mem n K0∧ ∀ r m k,K0 r m k→K r m k)→ ∃ K0,aop P Γ (evT tmp) o.op mem n K0∧ ∀ r m k,K0 r m k→K' r m k:=fun ⟨K0,a,b⟩=>⟨K0,a,fun r m k x=>hk r m k (b r m k x)⟩
 split at h
 · exact hq h
 · split at h
   · split at h
     · exact ⟨fun e=>hq (h.1 e),fun e=>hk _ _ _ (h.2 e)⟩
     · exact hk _ _ _ h
     · exact h.elim
   · exact h.elim
theorem fun_gpd (hG: ∀ f R,G f=some R→PureOk P f R) (all:List Oper) (mem:Mem) (o:Oper) (tmp:Nat→PV):Fun (gpd P G all mem o tmp):=by
 intro K h
 unfold gpd aG at *
 cases hg:o.guard with
 | none=>rw [hg] at h;exact fun_opd hG _ _ _ K h
 | some q =>
   obtain ⟨j,want⟩:=q
   rw [hg] at h
   simp only at h ⊢
   cases hd:gdst all j with
   | none=>rw [hd] at h;exact h.elim
   | some d =>
     rw [hd] at h
     simp only at h ⊢
     cases ht:tmp d with
     | bool b =>
       rw [ht] at h
       simp only at h ⊢
       by_cases hb:b=want
       · obtain ⟨r,h1,h2⟩:=fun_opd hG _ _ _ K (h.1 hb)
         exact ⟨r,h1,fun K' hk=>⟨fun _=>h2 K' hk,fun hn=>absurd hb hn⟩⟩
       · exact ⟨.tup [],h.2 hb,fun K' hk=>⟨fun hp=>absurd hp hb,fun _=>hk⟩⟩
     | tup xs =>
       rw [ht] at h
       cases xs with
       | nil=>exact ⟨.tup [],h,fun K' hk=>hk⟩
       | cons _ _=>exact h.elim
     | _=>rw [ht] at h;exact h.elim
theorem put_guard {ops:Array Oper} {o:Oper} {tmp:Nat→PV} {dst:Option Tmp} {r:PV} (h: ∀ d,dst=some d→d ∉ o.looksAt ops) {j:Nat} {want:Bool} (hg:o.guard=some (j,want)) {t:Tmp} (hd:gdst ops.toList j=some t):putT tmp dst r t=tmp t:=by
 cases dst with
 | none=>rfl
 | some d =>
   have hne:t≠d:=fun e=>h d rfl (by
    subst e
    have:(ops[j]?).bind (·.dst)=some t:=by simpa [gdst] using hd
    simp [Oper.looksAt,hg,this])
   simp [putT,upd,hne]
theorem put_eval {ops:Array Oper} {o:Oper} {tmp:Nat→PV} {dst:Option Tmp} {r:PV} (h: ∀ d,dst=some d→d ∉ o.looksAt ops): ∀ x ∈ o.op.operands,evT (putT tmp dst r) x=evT tmp x:=fun x hx=>evT_put fun d hd hxd=>h d hd (by
 subst hxd
 exact List.mem_append_left _ (List.mem_filterMap.2 ⟨.tmp d,by simpa using hx,rfl⟩))
theorem gpd_put {ops:Array Oper} {mem:Mem} {o:Oper} {tmp:Nat→PV} {dst:Option Tmp} {r:PV} (h: ∀ d,dst=some d→d ∉ o.looksAt ops) (K:PV→Prop) :
 gpd P G ops.toList mem o (putT tmp dst r) K=gpd P G ops.toList mem o tmp K:=by
 unfold gpd aG
 rw [aopd_congr _ _ _ (put_eval h)]
 cases hg:o.guard with
 | none=>rfl
 | some q =>
   obtain ⟨j,want⟩:=q
   simp only
   cases hd:gdst ops.toList j with
   | none=>rfl
   | some t =>
     simp only
     rw [put_guard h hg hd]
theorem aop_congr {Γ:Ctr} {ev ev':Operand→PV} (op:Op) (mem:Mem) (n:Nat) (K:PV→Mem→Nat→Prop) (h: ∀ x ∈ op.operands,ev x=ev' x):aop P Γ ev op mem n K=aop P Γ ev' op mem n K:=by
 cases op<;>simp only [Op.operands] at h<;>simp only [aop]<;>(try (simp_all;done))
 case build t ps =>
  have:(ps.toList.map fun p=>(p.1,ev p.2))=ps.toList.map fun p=>(p.1,ev' p.2):=List.map_congr_left fun p hp=>by
   rw [h p.2 (by simpa using ⟨p.1,by simpa using hp⟩)]
  rw [this]
 case buildSlice t l ps =>
  have:(ps.toList.map fun p=>(p.1,ev p.2))=ps.toList.map fun p=>(p.1,ev' p.2):=List.map_congr_left fun p hp=>by
   rw [h p.2 (by simpa using ⟨p.1,by simpa using hp⟩)]
  rw [this]
 case makeFunc fn first caps =>
  cases fn<;>simp only
  have:caps.toList.map ev=caps.toList.map ev':=List.map_congr_left fun x hx=>h x (by simp;exact .inr (by simpa using hx))
  rw [this]
 case slice t x lo hi mx =>
  cases mx with
  | some _=>rfl
  | none=>cases lo<;>cases hi<;>simp_all
 case call cl =>
  have hargs:cl.args.toList.map ev=cl.args.toList.map ev':=List.map_congr_left fun x hx=>h x (by simp [Call.operands];exact .inr (by simpa using hx))
  unfold aCall
  rw [hargs]
  cases hc:cl.callee with
  | value f =>
    have hf:ev f=ev' f:=h f (by simp [Call.operands,hc])
    simp only [hf]
  | builtin b=>cases b<;>rfl
  | invoke _ _=>rfl
theorem gpe_put {Γ:Ctr} {ops:Array Oper} {mem:Mem} {n:Nat} {o:Oper} {tmp:Nat→PV} {dst:Option Tmp} {r:PV} (h: ∀ d,dst=some d→d ∉ o.looksAt ops) (K:PV→Mem→Nat→Prop) :
 gpe P Γ ops.toList o (putT tmp dst r) mem n K=gpe P Γ ops.toList o tmp mem n K:=by
 unfold gpe aG
 have: ∀ K0,aop P Γ (evT (putT tmp dst r)) o.op mem n K0=aop P Γ (evT tmp) o.op mem n K0:=fun K0=>aop_congr _ _ _ _ (put_eval h)
 simp only [this]
 cases hg:o.guard with
 | none=>rfl
 | some q =>
   obtain ⟨j,want⟩:=q
   simp only
   cases hd:gdst ops.toList j with
   | none=>rfl
   | some t =>
     simp only
     rw [put_guard h hg hd]
/-- An operation behind calm ones, of which it is apart, may stand ahead of them. -/
theorem amix_frontC (hG: ∀ f R,G f=some R→PureOk P f R) {Γ:Ctr} {ops:Array Oper} {mc:Mem} {i:Oper} {post:List (Bool×Oper)} {K:AS→Prop} :
 ∀ (pre:List (Bool×Oper)) (σ:AS),(∀ j ∈ pre,j.1=true∧j.2.apart ops i=true)→amix P G Γ ops.toList mc (pre++(true,i)::post) σ K →
   gpd P G ops.toList mc i σ.tmp (fun r=>amix P G Γ ops.toList mc (pre++post) ⟨putT σ.tmp i.dst r,σ.mem,σ.nx⟩ K)
 | [],σ,_,h=>h
 | (b,j)::pre,σ,ha,h=>by
  obtain ⟨hb,hap⟩:=ha (b,j) (by simp)
  simp only at hb hap
  subst hb
  obtain ⟨a1,a2,a3⟩:=Oper.apart_spec hap
  rw [List.cons_append,amix] at h
  have h1:=(fun_gpd hG ops.toList mc j σ.tmp).mono (fun r hr=>amix_frontC hG pre _ (fun x hx=>ha x (by simp [hx])) hr) h
  have h2:gpd P G ops.toList mc j σ.tmp (fun r=>gpd P G ops.toList mc i σ.tmp (fun s=>amix P G Γ ops.toList mc (pre++post) ⟨putT (putT σ.tmp i.dst s) j.dst r,σ.mem,σ.nx⟩ K)) :=
   (fun_gpd hG ops.toList mc j σ.tmp).mono (fun r hr=>by
     simp only at hr
     rw [gpd_put a1] at hr
     refine (fun_gpd hG ops.toList mc i σ.tmp).mono (fun s hs=>?_) hr
     rw [putT_comm σ.tmp s r (fun d hd hd'=>a2 d hd' hd)]
     exact hs) h1
  obtain ⟨r,h3,h4⟩:=fun_gpd hG ops.toList mc j σ.tmp _ h2
  refine (fun_gpd hG ops.toList mc i σ.tmp).mono (fun s hs=>?_) h3
  rw [List.cons_append,amix,gpd_put a3]
  have:=h4 (fun r=>amix P G Γ ops.toList mc (pre++post) ⟨putT (putT σ.tmp i.dst s) j.dst r,σ.mem,σ.nx⟩ K) hs
  exact this
theorem amix_frontE (hG: ∀ f R,G f=some R→PureOk P f R) {Γ:Ctr} {ops:Array Oper} {mc:Mem} {i:Oper} {post:List (Bool×Oper)} {K:AS→Prop} :
 ∀ (pre:List (Bool×Oper)) (σ:AS),(∀ j ∈ pre,j.1=true∧j.2.apart ops i=true)→amix P G Γ ops.toList mc (pre++(false,i)::post) σ K →
   gpe P Γ ops.toList i σ.tmp σ.mem σ.nx (fun r m n=>SubM mc m∧amix P G Γ ops.toList mc (pre++post) ⟨putT σ.tmp i.dst r,m,n⟩ K)
 | [],σ,_,h=>h
 | (b,j)::pre,σ,ha,h=>by
  obtain ⟨hb,hap⟩:=ha (b,j) (by simp)
  simp only at hb hap
  subst hb
  obtain ⟨a1,a2,a3⟩:=Oper.apart_spec hap
  rw [List.cons_append,amix] at h
  have h1:=(fun_gpd hG ops.toList mc j σ.tmp).mono (fun r hr=>amix_frontE hG pre _ (fun x hx=>ha x (by simp [hx])) hr) h
  have h2:gpd P G ops.toList mc j σ.tmp (fun r=>gpe P Γ ops.toList i σ.tmp σ.mem σ.nx (fun s m n=>SubM mc m∧amix P G Γ ops.toList mc (pre++post) ⟨putT (putT σ.tmp i.dst s) j.dst r,m,n⟩ K)) :=
   (fun_gpd hG ops.toList mc j σ.tmp).mono (fun r hr=>by
     simp only at hr
     rw [gpe_put a1] at hr
     refine gpe_mono (fun s m n hs=>?_) hr
     rw [putT_comm σ.tmp s r (fun d hd hd'=>a2 d hd' hd)]
     exact hs) h1
  obtain ⟨r,h3,h4⟩:=fun_gpd hG ops.toList mc j σ.tmp _ h2
  refine gpe_mono (fun s m n hs=>⟨hs.1,?_⟩) h3
  rw [List.cons_append,amix,gpd_put a3]
  have:=h4 (fun r=>amix P G Γ ops.toList mc (pre++post) ⟨putT (putT σ.tmp i.dst s) j.dst r,m,n⟩ K) hs.2
  exact this
/-- An order of reading: which operations are calm; calm ones come as early as they may. -/
structure MixOk (ops:Array Oper) (ord:List Nat) (cal:Nat→Bool):Prop where
 nodup:ord.Nodup
 all: ∀ i,i ∈ ord↔i<ops.size
 back: ∀ i j pre post,ord=pre++j::post→Edge_ ops i j→i ∈ pre
 eff: ∀ i j pre post,ord=pre++j::post→i ∈ pre→cal i=false→Bef ops i j
 calm: ∀ i j pre post x y,ord=pre++j::post→i ∈ pre→cal i=true→ops[i]?=some x→ops[j]?=some y→Bef ops i j∨x.apart ops y=true
def mixB (ops:Array Oper) (cal:Nat→Bool):List Nat→List Nat→Bool
 | _,[]=>true
 | pre,j::post=>decide (j<ops.size) && !pre.contains j &&
    (match ops[j]? with
      | some y=>(y.after.all fun e=>!Region.binds .any e || pre.contains e.on) &&
         pre.all fun i=>befB ops ops.size i j || (cal i && match ops[i]? with
          | some x=>x.apart ops y
          | none=>false)
      | none=>false) && mixB ops cal (pre++[j]) post
theorem mixB_at {ops:Array Oper} {cal:Nat→Bool}: ∀ (rest pre p:List Nat) (j:Nat) (post:List Nat),mixB ops cal pre rest=true→rest=p++j::post →
 j<ops.size∧j ∉ pre++p∧(∀ i,Edge_ ops i j→i ∈ pre++p)∧ ∀ i ∈ pre++p,Bef ops i j∨(cal i=true∧ ∀ x y,ops[i]?=some x→ops[j]?=some y→x.apart ops y=true)
 | [],pre,p,j,post,_,e=>by simp at e
 | k::rest,pre,[],j,post,h,e=>by
   simp only [List.nil_append,List.cons.injEq] at e
   obtain ⟨rfl,rfl⟩:=e
   simp only [mixB,Bool.and_eq_true,decide_eq_true_eq,Bool.not_eq_true',List.contains_eq_mem,decide_eq_false_iff_not] at h
   obtain ⟨⟨⟨h1,h2⟩,h3⟩,h4⟩:=h
   rw [List.append_nil]
   cases hy:ops[k]? with
   | none=>rw [hy] at h3;cases h3
   | some y =>
     rw [hy] at h3
     simp only [Bool.and_eq_true,List.all_eq_true,Bool.or_eq_true] at h3
     refine ⟨h1,h2,?_,?_⟩
     · rintro i ⟨o,ho,ed,hed,hb,rfl⟩
       rw [hy] at ho
       cases ho
       have:=h3.1
       simp only [Array.all_eq_true,Bool.or_eq_true,Bool.not_eq_true',decide_eq_true_eq] at this
       obtain ⟨x,hx,rfl⟩:=Array.getElem_of_mem hed
       rcases this x hx with h|h
       · rw [hb] at h;cases h
       · exact h
     · intro i hi
       rcases h3.2 i hi with h|h
       · exact .inl (befB_sound _ h)
       · refine .inr ⟨h.1,fun x y' hx hy'=>?_⟩
         cases hy'
         have h2:=h.2
         rw [hx] at h2
         exact h2
 | k::rest,pre,q::p,j,post,h,e=>by
   simp only [List.cons_append,List.cons.injEq] at e
   obtain ⟨rfl,e⟩:=e
   simp only [mixB,Bool.and_eq_true] at h
   have:=mixB_at rest (pre++[k]) p j post h.2 e
   simpa using this
def ordB (ops:Array Oper) (ord:List Nat) (cal:Nat→Bool):Bool:=mixB ops cal [] ord && (List.range ops.size).all fun i=>ord.contains i
theorem ordB_sound {ops:Array Oper} {ord:List Nat} {cal:Nat→Bool} (h:ordB ops ord cal=true):MixOk ops ord cal:=by
 simp only [ordB,Bool.and_eq_true,List.all_eq_true,List.mem_range,List.contains_eq_mem,decide_eq_true_eq] at h
 obtain ⟨h1,h2⟩:=h
 have hat:=fun p j post e=>mixB_at (cal:=cal) ord [] p j post h1 e
 have hnd: ∀ (suf pre:List Nat),ord=pre++suf→pre.Nodup→(pre++suf).Nodup:=by
  intro suf
  induction suf with
  | nil=>intro pre _ hp;simpa using hp
  | cons j suf ih =>
    intro pre e hp
    obtain ⟨_,k2,_⟩:=hat pre j suf e
    have:=ih (pre++[j]) (by simpa using e) (by
     rw [List.nodup_append]
     refine ⟨hp,by simp,?_⟩
     intro a ha b hb
     simp only [List.mem_singleton] at hb
     subst hb
     rintro rfl
     exact k2 (by simpa using ha))
    simpa using this
 refine ⟨by simpa using hnd ord [] rfl (by simp),fun i=>⟨fun hi=>?_,fun hi=>h2 i hi⟩,?_,?_,?_⟩
 · obtain ⟨p,q,e⟩:=List.append_of_mem hi
   exact (hat p i q e).1
 · intro i j pre post e he
   have:=(hat pre j post e).2.2.1 i he
   simpa using this
 · intro i j pre post e hi hc
   rcases (hat pre j post e).2.2.2 i (by simpa using hi) with h|⟨h,_⟩
   · exact h
   · rw [hc] at h;cases h
 · intro i j pre post x y e hi hc hx hy
   rcases (hat pre j post e).2.2.2 i (by simpa using hi) with h|⟨_,h⟩
   · exact .inl h
   · exact .inr (h x y hx hy)
theorem mix_stage {Γ:Ctr} (hΓ: ∀ f C,Γ f=some C→ACok P f C) (hG: ∀ f R,G f=some R→PureOk P f R) {c0:Cx} {mem0:Mem} {n0 N:Nat} {ops:Array Oper} {ord:List Nat} {cal:Nat→Bool} (hD:MixOk ops ord cal) (hN: ∀ (i:Nat) (o:Oper),ops[i]?=some o→ ∀ d,o.dst=some d→d<N)
 {Q:Exit→Act→World→Prop} {K:AS→Prop} (hK: ∀ σ a w,K σ→Inv c0 mem0 n0 N σ a w→Q .normal a w) {mc:Mem} :
 ∀ (fuel:Nat) (listed:Array Bool) (σ:AS) (a:Act) (w:World),fuel=(ord.filter fun i=>!listed.getD i false).length→listed.size=ops.size→Closed ops listed→SubM mc σ.mem →
   amix P G Γ ops.toList mc ((ord.filter fun i=>!listed.getD i false).map fun i=>(cal i,ops.getD i default)) σ K→Inv c0 mem0 n0 N σ a w →
   wpAny P .any ops Q fuel listed a w:=by
 intro fuel
 induction fuel with
 | zero =>
   intro listed σ a w hf hs hc hsub h hI
   have hU:ord.filter (fun i=>!listed.getD i false)=[]:=List.eq_nil_of_length_eq_zero hf.symm
   rw [hU] at h
   refine ⟨?_,hK σ a w h hI⟩
   apply List.eq_nil_iff_forall_not_mem.2
   intro i hi
   rw [mem_ready hs] at hi
   have:i ∈ ord.filter (fun i=>!listed.getD i false):=List.mem_filter.2 ⟨(hD.all i).2 hi.1,by have:=hi.2.1;unfold Lst at this;simpa using this⟩
   rw [hU] at this
   simp at this
 | succ fuel ih =>
   intro listed σ a w hf hs hc hsub h hI
   have hne:ord.filter (fun i=>!listed.getD i false)≠[]:=by intro e;rw [e] at hf;simp at hf
   have hinf: ∀ i,i ∈ ord.filter (fun i=>!listed.getD i false)↔i<ops.size∧ ¬ Lst listed i:=by
    intro i
    rw [List.mem_filter,hD.all]
    unfold Lst
    simp
   refine ⟨fun hr=>?_,fun i hi=>?_⟩
   · -- the first that is left is ready
     exfalso
     obtain ⟨m,rest,hm⟩:=List.exists_cons_of_ne_nil hne
     have hm':=(hinf m).1 (by rw [hm];simp)
     have:m ∈ Region.ready .any ops listed:=by
      rw [mem_ready hs]
      refine ⟨hm'.1,hm'.2,fun j he=>?_⟩
      obtain ⟨p,q,e⟩:=List.append_of_mem ((hD.all m).2 hm'.1)
      have hjp:=hD.back j m p q e he
      refine Classical.byContradiction fun hn=>?_
      have hjo:j<ops.size:=(hD.all j).1 (by rw [e];simp [hjp])
      have hjf:j ∈ p.filter (fun i=>!listed.getD i false):=List.mem_filter.2 ⟨hjp,by unfold Lst at hn;simpa using hn⟩
      have hnd:=hD.nodup
      rw [e] at hm hnd
      rw [List.filter_append] at hm
      obtain ⟨x,xs,hx⟩:=List.exists_cons_of_ne_nil (List.ne_nil_of_mem hjf)
      rw [hx,List.cons_append,List.cons.injEq] at hm
      have hxm:x=m:=hm.1
      have hxp:x ∈ p:=(List.mem_filter.1 (by rw [hx];simp:x ∈ p.filter _)).1
      rw [List.nodup_append] at hnd
      exact hnd.2.2 x hxp m (by simp) hxm
     rw [hr] at this
     simp at this
   · obtain ⟨his,hil,hie⟩:=(mem_ready hs).1 hi
     have hio:ops[i]?=some ops[i]:=Array.getElem?_eq_getElem his
     have hiU:i ∈ ord:=(hD.all i).2 his
     obtain ⟨pre,post,e1,e2,e3⟩:=filter_split (p:=fun j=>!listed.getD j false) hD.nodup hiU (by unfold Lst at hil;simpa using hil)
     have hgd:ops.getD i default=ops[i]:=by simp [Array.getD_eq_getD_getElem?,hio]
     -- what stands before it is calm and apart
     have hpre: ∀ j ∈ pre,cal j=true∧(ops.getD j default).apart ops ops[i]=true:=by
      intro j hj
      obtain ⟨hjo,hjl⟩:=e3 j hj
      have hjl': ¬ Lst listed j:=by unfold Lst;simpa using hjl
      have hjs:j<ops.size:=(hD.all j).1 hjo
      obtain ⟨p,q,e⟩:=List.append_of_mem hiU
      have hjp:j ∈ p:=by
       have hnd:=hD.nodup
       rw [e] at e1 hnd
       rw [List.filter_append,List.filter_cons_of_pos (by unfold Lst at hil;simpa using hil)] at e1
       have hnd2:(p.filter (fun j=>!listed.getD j false)++i::q.filter (fun j=>!listed.getD j false)).Nodup:=by
        have:=List.Pairwise.filter (fun j=>!listed.getD j false) hnd
        rw [List.filter_append,List.filter_cons_of_pos (by unfold Lst at hil;simpa using hil)] at this
        exact this
       have:pre=p.filter (fun j=>!listed.getD j false):=by
        have hi1:i ∉ p.filter (fun j=>!listed.getD j false):=by
         intro hin
         rw [List.nodup_append] at hnd2
         exact hnd2.2.2 i hin i (by simp) rfl
        have hi2:i ∉ pre:=by
         intro hin
         have hn3:=hnd2
         rw [e1,List.nodup_append] at hn3
         exact hn3.2.2 i hin i (by simp) rfl
        have key: ∀ (l1 l2 m1 m2:List Nat),l1++i::m1=l2++i::m2→i ∉ l1→i ∉ l2→l1=l2:=by
         intro l1
         induction l1 with
         | nil =>
           intro l2 m1 m2 e h1 h2
           cases l2 with
           | nil=>rfl
           | cons x l2 =>
             simp only [List.nil_append,List.cons_append,List.cons.injEq] at e
             exact absurd (by rw [← e.1];simp) h2
         | cons x l1 ih =>
           intro l2 m1 m2 e h1 h2
           cases l2 with
           | nil =>
             simp only [List.nil_append,List.cons_append,List.cons.injEq] at e
             exact absurd (by rw [e.1];simp) h1
           | cons y l2 =>
             simp only [List.cons_append,List.cons.injEq] at e
             rw [e.1,ih l2 m1 m2 e.2 (by intro h;exact h1 (by simp [h])) (by intro h;exact h2 (by simp [h]))]
        exact (key _ _ _ _ e1 hi1 hi2).symm
       rw [this] at hj
       exact (List.mem_filter.1 hj).1
      have hnb: ¬ Bef ops j i:=by
       intro hb
       apply hjl'
       cases hb with
       | one he=>exact hie _ he
       | step hb' he=>exact hc.bef hb' (hie _ he)
      have hcal:cal j=true:=by
       cases hcj:cal j with
       | true=>rfl
       | false=>exact absurd (hD.eff j i p q e hjp hcj) hnb
      refine ⟨hcal,?_⟩
      have hjg:ops.getD j default=ops[j]'hjs:=by simp [Array.getD_eq_getD_getElem?,Array.getElem?_eq_getElem hjs]
      rw [hjg]
      rcases hD.calm j i p q _ _ e hjp hcal (Array.getElem?_eq_getElem hjs) hio with h|h
      · exact absurd h hnb
      · exact h
     have hset:ord.filter (fun j=>!(listed.setIfInBounds i true).getD j false)=pre++post:=by
      rw [← e2]
      apply List.filter_congr
      intro j _
      simp only [Array.getD_eq_getD_getElem?,Array.getElem?_setIfInBounds]
      by_cases e:i=j
      · subst e
        have:i<listed.size:=by omega
        simp [this]
      · rw [if_neg e]
        have: ¬ j=i:=fun h=>e h.symm
        simp [this]
     have hlen:fuel=(ord.filter (fun j=>!(listed.setIfInBounds i true).getD j false)).length:=by
      have g1:fuel+1=(pre++i::post).length:=by rw [hf,e1]
      rw [hset]
      rw [List.length_append,List.length_cons] at g1
      rw [List.length_append]
      omega
     have hcl:Closed ops (listed.setIfInBounds i true):=by
      intro x y he hy
      rw [lst_set (by omega)] at hy ⊢
      rcases hy with rfl|hy
      · exact .inr (hie x he)
      · exact .inr (hc x y he hy)
     have hsz':(listed.setIfInBounds i true).size=ops.size:=by simpa using hs
     have hmap:(pre.map fun i=>(cal i,ops.getD i default))++post.map (fun i=>(cal i,ops.getD i default))=(pre++post).map fun i=>(cal i,ops.getD i default):=by rw [List.map_append]
     have next: ∀ (σ':AS) (w':World) v,SubM mc σ'.mem→amix P G Γ ops.toList mc ((pre++post).map fun i=>(cal i,ops.getD i default)) σ' K →
      Inv c0 mem0 n0 N σ' (a.put ops[i].dst v) w'→wpAny P .any ops Q fuel (listed.setIfInBounds i true) (a.put ops[i].dst v) w':=by
      intro σ' w' v hsub' hh hI'
      exact ih _ _ _ _ hlen hsz' hcl hsub' (by rw [hset];exact hh) hI'
     rw [e1,List.map_append,List.map_cons,hgd] at h
     obtain ⟨c,rfl,hst,hrep,hsz,hdf⟩:=hI
     unfold wpOp
     simp only [hio]
     have hskip:amix P G Γ ops.toList mc ((pre++post).map fun i=>(cal i,ops.getD i default)) ⟨putT σ.tmp ops[i].dst (.tup []),σ.mem,σ.nx⟩ K →
      wpAny P .any ops Q fuel (listed.setIfInBounds i true) (a.put ops[i].dst undef) c.w:=by
      intro hh
      obtain ⟨g1,g2⟩:=rep_put (r:= .tup []) (v:=undef) hrep (.refl c) hsz (hN i _ hio) (rep_skip c)
      exact next ⟨putT σ.tmp ops[i].dst (.tup []),σ.mem,σ.nx⟩ c.w undef hsub hh ⟨c,rfl,hst,g1,g2,by cases ops[i].dst<;>exact hdf⟩
     -- what its test says
     have test: ∀ (A:Prop) (B:Prop),aG ops.toList σ.tmp ops[i].guard A B→(A→ops[i].wp P a c.w (wpAny P .any ops Q fuel (listed.setIfInBounds i true)) Q)→(B→amix P G Γ ops.toList mc ((pre++post).map fun i=>(cal i,ops.getD i default)) ⟨putT σ.tmp ops[i].dst (.tup []),σ.mem,σ.nx⟩ K) →
      (if Region.wanted ops[i] (yielded ops a.tmps)=true then ops[i].wp P a c.w (wpAny P .any ops Q fuel (listed.setIfInBounds i true)) Q∨(ops[i].asks P a c.w∧LetsOut Q) else wpAny P .any ops Q fuel (listed.setIfInBounds i true) (a.put ops[i].dst undef) c.w):=by
      intro A B hq hA hB
      unfold aG at hq
      cases hg:ops[i].guard with
      | none =>
        rw [hg] at hq
        have hw:Region.wanted ops[i] (yielded ops a.tmps)=true:=by simp [Region.wanted,hg]
        rw [if_pos hw]
        exact .inl (hA hq)
      | some q =>
        obtain ⟨j,want⟩:=q
        rw [hg] at hq
        simp only at hq
        cases hgd:gdst ops.toList j with
        | none=>rw [hgd] at hq;exact hq.elim
        | some d =>
          rw [hgd] at hq
          simp only at hq
          cases htd:σ.tmp d with
          | bool b =>
            rw [htd] at hq
            simp only at hq
            have hy:=yielded_of hgd hrep htd
            by_cases hb:b=want
            · have hw:Region.wanted ops[i] (yielded ops a.tmps)=true:=by simp [Region.wanted,hg,hy,hb]
              rw [if_pos hw]
              exact .inl (hA (hq.1 hb))
            · have hw:Region.wanted ops[i] (yielded ops a.tmps)=false:=by simp [Region.wanted,hg,hy,hb]
              rw [hw]
              exact hskip (hB (hq.2 hb))
          | tup xs =>
            rw [htd] at hq
            cases xs with
            | nil =>
              have hy:=yielded_none hgd hrep htd
              have hw:Region.wanted ops[i] (yielded ops a.tmps)=false:=by simp [Region.wanted,hg,hy]
              rw [hw]
              exact hskip (hB hq)
            | cons _ _=>exact hq.elim
          | _=>rw [htd] at hq;exact hq.elim
     have hpre': ∀ j ∈ pre.map (fun i=>(cal i,ops.getD i default)),j.1=true∧j.2.apart ops ops[i]=true:=by
      intro x hx
      obtain ⟨j,hj,rfl⟩:=List.mem_map.1 hx
      exact hpre j hj
     cases hci:cal i with
     | true =>
       rw [hci] at h
       have hfront:=amix_frontC hG (i:=ops[i]) (pre.map fun i=>(cal i,ops.getD i default)) σ hpre' h
       rw [hmap] at hfront
       refine test _ _ hfront (fun hh=>?_) id
       refine opd_sound hG (mem:=mc) (n:=σ.nx) hh (rep_evT hrep) (hsub.inv hst.inv) hst.free (fun r c' v q1 q2 q3=>?_)
       have st:=Step.more hst.inv hsub q2
       obtain ⟨g1,g2⟩:=rep_put hrep st.le hsz (hN i _ hio) q3
       exact next ⟨putT σ.tmp ops[i].dst r,σ.mem,σ.nx⟩ c'.w v hsub q1 ⟨c',rfl,hst.trans st,g1,g2,by cases ops[i].dst<;>exact hdf⟩
     | false =>
       rw [hci] at h
       have hfront:=amix_frontE hG (i:=ops[i]) (pre.map fun i=>(cal i,ops.getD i default)) σ hpre' h
       rw [hmap] at hfront
       refine test _ _ hfront (fun ⟨K0,hh,hK0⟩=>?_) (fun h=>h.2)
       refine op_sound hΓ hh (rep_evT hrep) hst.inv hst.free (fun r c' m k v q1 q2 q3=>?_)
       obtain ⟨g1,g2⟩:=rep_put hrep q2.le hsz (hN i _ hio) q3
       obtain ⟨hs',hn'⟩:=hK0 r m k q1
       exact next ⟨putT σ.tmp ops[i].dst r,m,k⟩ c'.w v hs' hn' ⟨c',rfl,hst.trans q2,g1,g2,by cases ops[i].dst<;>exact hdf⟩
/-- A region whose order is drawn, as it is read in one order. -/
def amixr (P:Program) (G:PCtr) (Γ:Ctr) (ops:Array Oper) (mc:Mem) (cal:Nat→Bool) (ord:List Nat) (σ:AS) (K:AS→Prop):Prop :=
 ordB ops ord cal=true∧SubM mc σ.mem∧amix P G Γ ops.toList mc (ord.map fun i=>(cal i,ops.getD i default)) σ K
theorem amixr_sound {Γ:Ctr} (hΓ: ∀ f C,Γ f=some C→ACok P f C) (hG: ∀ f R,G f=some R→PureOk P f R) {c0:Cx} {mem0:Mem} {n0 N:Nat} {ops:Array Oper} {id:Nat} {mc:Mem} {cal:Nat→Bool} {ord:List Nat} (hN: ∀ (i:Nat) (o:Oper),ops[i]?=some o→ ∀ d,o.dst=some d→d<N)
 {Q:Exit→Act→World→Prop} {K:AS→Prop} (hK: ∀ σ a w,K σ→Inv c0 mem0 n0 N σ a w→Q .normal a w) (hm:P.follows .mixedOrders=true) {σ:AS} {a:Act} {w:World} (h:amixr P G Γ ops mc cal ord σ K) (hI:Inv c0 mem0 n0 N σ a w) :
 (Code.region id ops true).wp P Q a w:=by
 obtain ⟨hB,hs,h⟩:=h
 have hD:=ordB_sound hB
 refine wp_region_any hm ?_
 have hL: ∀ i,(Array.replicate ops.size false).getD i false=false:=by
  intro i
  rw [Array.getD_eq_getD_getElem?,Array.getElem?_replicate]
  split<;>rfl
 have hU:ord.filter (fun i=>!(Array.replicate ops.size false).getD i false)=ord:=by
  apply List.filter_eq_self.2
  intro x _
  rw [hL];rfl
 have hlen:ord.length=ops.size:=by
  have h1:ord.Perm (List.range ops.size):=(List.perm_ext_iff_of_nodup hD.nodup List.nodup_range).2 (fun i=>by rw [hD.all,List.mem_range])
  simpa using h1.length_eq
 obtain ⟨c,rfl,hst,hrep,hsz,hdf⟩:=hI
 have hdrew:Inv c0 mem0 n0 N σ a c.w.drew:=by
  let c':Cx:=⟨c.w.drew,c.fz,c.ρ⟩
  have st:Step c σ.mem σ.nx c' σ.mem σ.nx:=Step.later hst.inv hst.free rfl (fun _ h=>h) (Below.refl _ _).drew (fun b hb=> .inl hb)
  exact ⟨c',rfl,hst.trans st,fun j=>Rep.mono _ st.le (hrep j),hsz,hdf⟩
 refine mix_stage hΓ hG hD hN hK (mc:=mc) ops.size _ σ a c.w.drew (by rw [hU,hlen]) (by simp) (fun i j _ hj=>?_) hs (by rw [hU];exact h) hdrew
 unfold Lst at hj
 rw [hL] at hj
 cases hj
end
end Go.Proofs.YtnbjogilidfkdaaGreat
