/- Regions whose order is drawn: calm operations in any order, then the rest in the text's order. -/
import Derived.Test.YtnbjogilidfkdaaGreatVF8

namespace Go.Proofs.YtnbjogilidfkdaaGreat
set_option maxRecDepth 100000
set_option linter.unusedVariables false
set_option linter.unusedSimpArgs false
open Go.RowKit
section
variable {P:Program} {G:PCtr}
def acalm (P:Program) (G:PCtr) (all:List Oper) (mem:Mem):List Oper→(Nat→PV)→((Nat→PV)→Prop)→Prop
 | [],tmp,K=>K tmp
 | o::rest,tmp,K=>aG all tmp o.guard (aopc P G (evT tmp) o.op mem fun r=>acalm P G all mem rest (putT tmp o.dst r) K) (acalm P G all mem rest (putT tmp o.dst (.tup [])) K)
def gop (P:Program) (G:PCtr) (all:List Oper) (mem:Mem) (o:Oper) (tmp:Nat→PV) (K:PV→Prop):Prop :=
 aG all tmp o.guard (aopc P G (evT tmp) o.op mem K) (K (.tup []))
theorem acalm_cons (all:List Oper) (mem:Mem) (o:Oper) (rest:List Oper) (tmp:Nat→PV) (K:(Nat→PV)→Prop) :
 acalm P G all mem (o::rest) tmp K=gop P G all mem o tmp (fun r=>acalm P G all mem rest (putT tmp o.dst r) K):=rfl
theorem fun_gop (hG: ∀ f R,G f=some R→PureOk P f R) (all:List Oper) (mem:Mem) (o:Oper) (tmp:Nat→PV):Fun (gop P G all mem o tmp):=by
 intro K h
 unfold gop aG at *
 cases hg:o.guard with
 | none=>rw [hg] at h;exact fun_opc hG _ _ _ K h
 | some q =>
   obtain ⟨j,want⟩:=q
   rw [hg] at h
   simp only at h ⊢
   cases hd:gdst all j with
   | none=>rw [hd] at h;exact h.elim
   | some d =>
     rw [hd] at h
     simp only at h ⊢
     cases ht:tmp d with
     | bool b =>
       rw [ht] at h
       simp only at h ⊢
       by_cases hb:b=want
       · obtain ⟨r,h1,h2⟩:=fun_opc hG _ _ _ K (h.1 hb)
         exact ⟨r,h1,fun K' hk=>⟨fun _=>h2 K' hk,fun hn=>absurd hb hn⟩⟩
       · exact ⟨.tup [],h.2 hb,fun K' hk=>⟨fun hp=>absurd hp hb,fun _=>hk⟩⟩
     | tup xs =>
       rw [ht] at h
       cases xs with
       | nil=>exact ⟨.tup [],h,fun K' hk=>hk⟩
       | cons _ _=>exact h.elim
     | _=>rw [ht] at h;exact h.elim
theorem evT_put {tmp:Nat→PV} {dst:Option Tmp} {r:PV} {x:Operand} (h: ∀ d,dst=some d→x≠ .tmp d):evT (putT tmp dst r) x=evT tmp x:=by
 cases dst with
 | none=>rfl
 | some d =>
   cases x with
   | tmp t =>
     have:t≠d:=fun e=>h d rfl (by rw [e])
     simp [evT,putT,upd,this]
   | _=>rfl
theorem aopc_congr {ev ev':Operand→PV} (op:Op) (mem:Mem) (K:PV→Prop) (h: ∀ x ∈ op.operands,ev x=ev' x):aopc P G ev op mem K=aopc P G ev' op mem K:=by
 cases op<;>simp only [Op.operands] at h<;>simp only [aopc]<;>(try (simp_all;done))
 case build t ps =>
  have:(ps.toList.map fun p=>(p.1,ev p.2))=ps.toList.map fun p=>(p.1,ev' p.2):=List.map_congr_left fun p hp=>by
   rw [h p.2 (by simpa using ⟨p.1,by simpa using hp⟩)]
  rw [this]
 case slice t x lo hi mx =>
  cases mx with
  | some _=>rfl
  | none=>cases lo<;>cases hi<;>simp_all
 case call cl =>
  have hargs:cl.args.toList.map ev=cl.args.toList.map ev':=List.map_congr_left fun x hx=>h x (by simp [Call.operands];exact .inr (by simpa using hx))
  unfold aCallC
  rw [hargs]
  cases hc:cl.callee with
  | value f =>
    have hf:ev f=ev' f:=h f (by simp [Call.operands,hc])
    simp only [hf]
  | builtin b=>cases b<;>rfl
  | invoke _ _=>rfl
theorem gop_put {ops:Array Oper} {mem:Mem} {o:Oper} {tmp:Nat→PV} {dst:Option Tmp} {r:PV} (h: ∀ d,dst=some d→d ∉ o.looksAt ops) (K:PV→Prop) :
 gop P G ops.toList mem o (putT tmp dst r) K=gop P G ops.toList mem o tmp K:=by
 have hop:aopc P G (evT (putT tmp dst r)) o.op mem K=aopc P G (evT tmp) o.op mem K:=aopc_congr _ _ _ fun x hx=>evT_put fun d hd hxd=>h d hd (by
  subst hxd
  exact List.mem_append_left _ (List.mem_filterMap.2 ⟨.tmp d,by simpa using hx,rfl⟩))
 unfold gop aG
 rw [hop]
 cases hg:o.guard with
 | none=>rfl
 | some q =>
   obtain ⟨j,want⟩:=q
   simp only
   cases hd:gdst ops.toList j with
   | none=>rfl
   | some t =>
     simp only
     have ht:putT tmp dst r t=tmp t:=by
      cases dst with
      | none=>rfl
      | some d =>
        have hne:t≠d:=fun e=>h d rfl (by
         subst e
         have:(ops[j]?).bind (·.dst)=some t:=by simpa [gdst] using hd
         simp [Oper.looksAt,hg,this])
        simp [putT,upd,hne]
     rw [ht]
theorem putT_comm (tmp:Nat→PV) {x y:Option Tmp} (u v:PV) (h: ∀ d,x=some d→y≠some d):putT (putT tmp x u) y v=putT (putT tmp y v) x u:=by
 cases x with
 | none=>rfl
 | some d =>
   cases y with
   | none=>rfl
   | some e =>
     have hne:d≠e:=fun he=>h d rfl (he ▸ rfl)
     funext j
     simp only [putT,upd]
     by_cases h1:j=e<;>by_cases h2:j=d<;>simp [h1,h2]
     · subst h1 h2;exact absurd rfl hne
     · intro h3;exact absurd h3.symm hne
     · intro h3;exact absurd h3 hne
theorem acalm_front (hG: ∀ f R,G f=some R→PureOk P f R) {ops:Array Oper} {mem:Mem} {i:Oper} {post:List Oper} {K:(Nat→PV)→Prop} :
 ∀ (pre:List Oper) (tmp:Nat→PV),(∀ j ∈ pre,j.apart ops i=true)→acalm P G ops.toList mem (pre++i::post) tmp K →
   gop P G ops.toList mem i tmp (fun r=>acalm P G ops.toList mem (pre++post) (putT tmp i.dst r) K)
 | [],tmp,_,h=>h
 | j::pre,tmp,ha,h=>by
   obtain ⟨a1,a2,a3⟩:=Oper.apart_spec (ha j (by simp))
   rw [List.cons_append,acalm_cons] at h
   have h1:=(fun_gop hG ops.toList mem j tmp).mono (fun r hr=>acalm_front hG pre (putT tmp j.dst r) (fun x hx=>ha x (by simp [hx])) hr) h
   have h2:gop P G ops.toList mem j tmp (fun r=>gop P G ops.toList mem i tmp (fun s=>acalm P G ops.toList mem (pre++post) (putT (putT tmp i.dst s) j.dst r) K)) :=
    (fun_gop hG ops.toList mem j tmp).mono (fun r hr=>by
      rw [gop_put a1] at hr
      refine (fun_gop hG ops.toList mem i tmp).mono (fun s hs=>?_) hr
      rw [putT_comm tmp s r (fun d hd hd'=>a2 d hd' hd)]
      exact hs) h1
   obtain ⟨r,h3,h4⟩:=fun_gop hG ops.toList mem j tmp _ h2
   refine (fun_gop hG ops.toList mem i tmp).mono (fun s hs=>?_) h3
   rw [List.cons_append,acalm_cons,gop_put a3]
   have:=h4 (fun r=>acalm P G ops.toList mem (pre++post) (putT (putT tmp i.dst s) j.dst r) K) hs
   exact this
def Edge_ (ops:Array Oper) (i j:Nat):Prop:= ∃ o,ops[j]?=some o∧ ∃ e ∈ o.after,Region.binds .any e=true∧e.on=i
inductive Bef (ops:Array Oper):Nat→Nat→Prop where
 | one {i j:Nat}:Edge_ ops i j→Bef ops i j
 | step {i m j:Nat}:Bef ops i m→Edge_ ops m j→Bef ops i j
structure DrawOk (ops:Array Oper) (k:Nat):Prop where
 le:k≤ops.size
 back: ∀ i j,Edge_ ops i j→i<j
 apart: ∀ (i j:Nat) (x y:Oper),i<j→j<k→ops[i]?=some x→ops[j]?=some y→Edge_ ops i j∨x.apart ops y=true
 tail: ∀ i t,k≤t→t<ops.size→i<t→Bef ops i t
def edgeB (ops:Array Oper) (i j:Nat):Bool:=match ops[j]? with
 | some o=>o.after.any fun e=>Region.binds .any e && e.on == i
 | none=>false
def befB (ops:Array Oper):Nat→Nat→Nat→Bool
 | 0,i,j=>edgeB ops i j
 | n+1,i,j=>edgeB ops i j || (match ops[j]? with
   | some o=>o.after.any fun e=>Region.binds .any e && befB ops n i e.on
   | none=>false)
def drawB (ops:Array Oper) (k:Nat):Bool :=
 decide (k≤ops.size) &&
 ((List.range ops.size).all fun j=>match ops[j]? with
   | some o=>o.after.all fun e=>!Region.binds .any e || decide (e.on<j)
   | none=>true) &&
 ((List.range k).all fun j=>(List.range j).all fun i=>edgeB ops i j || (match ops[i]?,ops[j]? with
   | some x,some y=>x.apart ops y
   | _,_=>true)) &&
 ((List.range ops.size).all fun t=>decide (t<k) || (List.range t).all fun i=>befB ops ops.size i t)
theorem edgeB_iff {ops:Array Oper} {i j:Nat}:edgeB ops i j=true↔Edge_ ops i j:=by
 unfold edgeB Edge_
 cases h:ops[j]? with
 | none=>simp
 | some o =>
   simp only [Array.any_eq_true,Bool.and_eq_true,beq_iff_eq,Option.some.injEq,exists_eq_left']
   constructor
   · rintro ⟨x,hx,h1,h2⟩;exact ⟨_,Array.getElem_mem hx,h1,h2⟩
   · rintro ⟨e,he,h1,h2⟩
     obtain ⟨x,hx,rfl⟩:=Array.getElem_of_mem he
     exact ⟨x,hx,h1,h2⟩
theorem befB_sound {ops:Array Oper}: ∀ (n:Nat) {i j:Nat},befB ops n i j=true→Bef ops i j
 | 0,i,j,h=> .one (edgeB_iff.1 h)
 | n+1,i,j,h=>by
   simp only [befB,Bool.or_eq_true] at h
   rcases h with h|h
   · exact .one (edgeB_iff.1 h)
   · cases ho:ops[j]? with
     | none=>rw [ho] at h;cases h
     | some o =>
       rw [ho] at h
       simp only [Array.any_eq_true,Bool.and_eq_true] at h
       obtain ⟨x,hx,h1,h2⟩:=h
       exact .step (befB_sound n h2) ⟨o,ho,_,Array.getElem_mem hx,h1,rfl⟩
theorem drawB_sound {ops:Array Oper} {k:Nat} (h:drawB ops k=true):DrawOk ops k:=by
 simp only [drawB,Bool.and_eq_true,decide_eq_true_eq,List.all_eq_true,List.mem_range,Bool.or_eq_true] at h
 obtain ⟨⟨⟨h1,h2⟩,h3⟩,h4⟩:=h
 refine ⟨h1,?_,?_,?_⟩
 · rintro i j ⟨o,ho,e,he,hb,rfl⟩
   have hj:j<ops.size:=(Array.getElem?_eq_some_iff.1 ho).1
   have:=h2 j hj
   rw [ho] at this
   simp only [Array.all_eq_true,Bool.or_eq_true,Bool.not_eq_true',decide_eq_true_eq] at this
   obtain ⟨x,hx,rfl⟩:=Array.getElem_of_mem he
   rcases this x hx with h|h
   · rw [hb] at h;cases h
   · exact h
 · intro i j x y hij hjk hx hy
   rcases h3 j hjk i hij with h|h
   · exact .inl (edgeB_iff.1 h)
   · rw [hx,hy] at h;exact .inr h
 · intro i t hk ht hit
   rcases h4 t ht with h|h
   · omega
   · exact befB_sound _ (h i hit)
def Lst (listed:Array Bool) (i:Nat):Prop:=listed.getD i false=true
theorem mem_ready {ops:Array Oper} {listed:Array Bool} (hs:listed.size=ops.size) {i:Nat}:i ∈ Region.ready .any ops listed↔i<ops.size∧ ¬ Lst listed i∧ ∀ j,Edge_ ops j i→Lst listed j:=by
 unfold Region.ready Lst Edge_
 simp only [List.mem_filter,List.mem_range,Bool.and_eq_true,Bool.not_eq_true',Bool.not_eq_true]
 constructor
 · rintro ⟨h1,h2,h3⟩
   refine ⟨h1,?_,?_⟩
   · rw [Array.getD_eq_getD_getElem?,Array.getElem?_eq_getElem (by omega)] at h2 ⊢
     simpa using h2
   · rintro j ⟨o,ho,e,he,hb,rfl⟩
     rw [ho] at h3
     simp only [Option.map_some,Option.getD_some,Array.all_eq_true,Bool.or_eq_true,Bool.not_eq_true'] at h3
     obtain ⟨x,hx,rfl⟩:=Array.getElem_of_mem he
     rcases h3 x hx with h|h
     · rw [hb] at h;cases h
     · exact h
 · rintro ⟨h1,h2,h3⟩
   refine ⟨h1,?_,?_⟩
   · rw [Array.getD_eq_getD_getElem?,Array.getElem?_eq_getElem (by omega)] at h2 ⊢
     simpa using h2
   · rw [Array.getElem?_eq_getElem h1]
     simp only [Option.map_some,Option.getD_some,Array.all_eq_true,Bool.or_eq_true,Bool.not_eq_true']
     intro x hx
     by_cases hb:Region.binds .any ops[i].after[x]=true
     · exact .inr (h3 _ ⟨ops[i],Array.getElem?_eq_getElem h1,_,Array.getElem_mem hx,hb,rfl⟩)
     · exact .inl (by simpa using hb)
/-- The operations not yet listed. -/
def Un (ops:Array Oper) (listed:Array Bool):List Nat:=(List.range ops.size).filter fun i=>!listed.getD i false
theorem mem_Un {ops:Array Oper} {listed:Array Bool} {i:Nat}:i ∈ Un ops listed↔i<ops.size∧ ¬ Lst listed i:=by
 simp [Un,Lst]
def Closed (ops:Array Oper) (listed:Array Bool):Prop:= ∀ i j,Edge_ ops i j→Lst listed j→Lst listed i
theorem Closed.bef {ops:Array Oper} {listed:Array Bool} (h:Closed ops listed) {i j:Nat} (hb:Bef ops i j):Lst listed j→Lst listed i:=by
 induction hb with
 | one he=>exact h _ _ he
 | step _ he ih=>exact fun hj=>ih (h _ _ he hj)
theorem lst_set {listed:Array Bool} {i j:Nat} (hi:i<listed.size):Lst (listed.setIfInBounds i true) j↔j=i∨Lst listed j:=by
 unfold Lst
 simp only [Array.getD_eq_getD_getElem?,Array.getElem?_setIfInBounds]
 by_cases e:i=j
 · subst e;simp [hi]
 · rw [if_neg e]
   constructor
   · exact .inr
   · rintro (h|h)
     · exact absurd h.symm e
     · exact h
theorem filter_split {p:Nat→Bool} {i:Nat}: ∀ {l:List Nat},l.Nodup→i ∈ l→p i=true→ ∃ pre post,l.filter p=pre++i::post∧l.filter (fun j=>p j && !(j == i))=pre++post∧(∀ x ∈ pre,x ∈ l∧p x=true)
 | [],_,h,_=>by simp at h
 | x::l,hn,h,hp=>by
   rw [List.nodup_cons] at hn
   by_cases e:x=i
   · subst e
     refine ⟨[],l.filter p,by simp [hp],?_,by simp⟩
     have:l.filter (fun j=>p j && !(j == x))=l.filter p:=List.filter_congr fun j hj=>by
      have:j≠x:=fun e=>hn.1 (e ▸ hj)
      simp [this]
     simp [this]
   · have hi:i ∈ l:=by simpa [Ne.symm e] using h
     obtain ⟨pre,post,h1,h2,h3⟩:=filter_split hn.2 hi hp
     by_cases hx:p x=true
     · refine ⟨x::pre,post,by simp [hx,h1],by simp [hx,h2,e],?_⟩
       intro y hy
       rcases List.mem_cons.1 hy with rfl|hy
       · exact ⟨by simp,hx⟩
       · exact ⟨by simp [(h3 y hy).1],(h3 y hy).2⟩
     · refine ⟨pre,post,by simp [hx,h1],by simp [hx,h2],fun y hy=>⟨by simp [(h3 y hy).1],(h3 y hy).2⟩⟩
theorem Un_set {ops:Array Oper} {listed:Array Bool} {i:Nat} (hi:i<listed.size):Un ops (listed.setIfInBounds i true)=(List.range ops.size).filter fun j=>!listed.getD j false && !(j == i):=by
 unfold Un
 apply List.filter_congr
 intro j _
 simp only [Array.getD_eq_getD_getElem?,Array.getElem?_setIfInBounds]
 by_cases e:i=j
 · subst e;simp [hi]
 · rw [if_neg e]
   have: ¬ j=i:=fun h=>e h.symm
   simp [this]
theorem seq_stage {Γ:Ctr} (hΓ: ∀ f C,Γ f=some C→ACok P f C) {c0:Cx} {mem0:Mem} {n0 N:Nat} {ops:Array Oper} {k0:Nat} (hD:DrawOk ops k0) (hN: ∀ (i:Nat) (o:Oper),ops[i]?=some o→ ∀ d,o.dst=some d→d<N)
 {Q:Exit→Act→World→Prop} {K:AS→Prop} (hK: ∀ σ a w,K σ→Inv c0 mem0 n0 N σ a w→Q .normal a w) :
 ∀ (fuel k:Nat) (listed:Array Bool) (σ:AS) (a:Act) (w:World),fuel=ops.size - k→k0≤k→k≤ops.size→listed.size=ops.size→(∀ i,i<ops.size→(Lst listed i↔i<k)) →
   arun P Γ ops.toList (ops.toList.drop k) σ K→Inv c0 mem0 n0 N σ a w→wpAny P .any ops Q fuel listed a w
 | 0,k,listed,σ,a,w,hf,hk0,hk,hs,hl,h,hI=>by
   have hk':k=ops.size:=by omega
   have hd:ops.toList.drop k=[]:=List.drop_of_length_le (by simp;omega)
   rw [hd] at h
   refine ⟨?_,hK σ a w h hI⟩
   apply List.eq_nil_iff_forall_not_mem.2
   intro i hi
   rw [mem_ready hs] at hi
   exact hi.2.1 ((hl i hi.1).2 (by omega))
 | fuel+1,k,listed,σ,a,w,hf,hk0,hk,hs,hl,h,hI=>by
   have hlt:k<ops.size:=by omega
   have hready: ∀ i,i ∈ Region.ready .any ops listed↔i=k:=by
    intro i
    rw [mem_ready hs]
    constructor
    · rintro ⟨h1,h2,h3⟩
      rw [hl i h1] at h2
      rcases Nat.lt_or_ge k i with hik|hik
      · exfalso
        have hcl: ∀ j,Bef ops k j→j=i→False:=by
         intro j hb
         cases hb with
         | one he=>rintro rfl;have:=h3 k he;rw [hl k hlt] at this;omega
         | step hb' he =>
           rintro rfl
           rename_i m
           have hm:=h3 m he
           have hmk:m<k:=(hl m (by have:=hD.back _ _ he;omega)).1 hm
           have hbk: ∀ {x y:Nat},Bef ops x y→x<y:=by
            intro x y hb
            induction hb with
            | one he=>exact hD.back _ _ he
            | step _ he ih=>have:=hD.back _ _ he;omega
           have:=hbk hb'
           omega
        exact hcl i (hD.tail k i (by omega) h1 hik) rfl
      · omega
    · rintro rfl
      refine ⟨hlt,by rw [hl i hlt];omega,fun j he=>?_⟩
      have:=hD.back _ _ he
      exact (hl j (by omega)).2 this
   refine ⟨fun hr=>?_,fun i hi=>?_⟩
   · have:=(hready k).2 rfl
     rw [hr] at this
     simp at this
   · obtain rfl:=(hready i).1 hi
     have hdrop:ops.toList.drop i=ops[i]::ops.toList.drop (i+1):=by
      have:=List.drop_eq_getElem_cons (l:=ops.toList) (i:=i) (by simpa using hlt)
      rw [this]
      simp
     rw [hdrop] at h
     have hio:ops[i]?=some ops[i]:=Array.getElem?_eq_getElem hlt
     have hlisted: ∀ j,j<ops.size→(Lst (listed.setIfInBounds i true) j↔j<i+1):=by
      intro j hj
      rw [lst_set (by omega),hl j hj]
      omega
     obtain ⟨c,rfl,hst,hrep,hsz,hdf⟩:=hI
     unfold wpOp
     simp only [hio]
     simp only [arun] at h
     have hop:(aop P Γ (evT σ.tmp) ops[i].op σ.mem σ.nx fun r m n=>arun P Γ ops.toList (ops.toList.drop (i+1)) ⟨putT σ.tmp ops[i].dst r,m,n⟩ K)→ops[i].wp P a c.w (wpAny P .any ops Q fuel (listed.setIfInBounds i true)) Q:=by
      intro h
      refine op_sound hΓ h (rep_evT hrep) hst.inv hst.free (fun r c' m n v h1 h2 h3=>?_)
      obtain ⟨g1,g2⟩:=rep_put hrep h2.le hsz (hN i _ hio) h3
      exact seq_stage hΓ hD hN hK fuel (i+1) _ _ _ _ (by omega) (by omega) (by omega) (by simpa using hs) hlisted h1 ⟨c',rfl,hst.trans h2,g1,g2,by cases ops[i].dst<;>exact hdf⟩
     have hskip:arun P Γ ops.toList (ops.toList.drop (i+1)) ⟨putT σ.tmp ops[i].dst (.tup []),σ.mem,σ.nx⟩ K→wpAny P .any ops Q fuel (listed.setIfInBounds i true) (a.put ops[i].dst undef) c.w:=by
      intro h
      obtain ⟨g1,g2⟩:=rep_put (r:= .tup []) (v:=undef) hrep (.refl c) hsz (hN i _ hio) (rep_skip c)
      exact seq_stage hΓ hD hN hK fuel (i+1) _ _ _ _ (by omega) (by omega) (by omega) (by simpa using hs) hlisted h ⟨c,rfl,hst,g1,g2,by cases ops[i].dst<;>exact hdf⟩
     unfold aG at h
     cases hg:ops[i].guard with
     | none =>
       rw [hg] at h
       have hw:Region.wanted ops[i] (yielded ops a.tmps)=true:=by simp [Region.wanted,hg]
       rw [if_pos hw]
       exact .inl (hop h)
     | some q =>
       obtain ⟨j,want⟩:=q
       rw [hg] at h
       simp only at h
       cases hgd:gdst ops.toList j with
       | none=>rw [hgd] at h;exact h.elim
       | some d =>
         rw [hgd] at h
         simp only at h
         cases ht:σ.tmp d with
         | bool b =>
           rw [ht] at h
           simp only at h
           have hy:=yielded_of hgd hrep ht
           by_cases hb:b=want
           · have hw:Region.wanted ops[i] (yielded ops a.tmps)=true:=by simp [Region.wanted,hg,hy,hb]
             rw [if_pos hw]
             exact .inl (hop (h.1 hb))
           · have hw:Region.wanted ops[i] (yielded ops a.tmps)=false:=by simp [Region.wanted,hg,hy,hb]
             rw [hw]
             exact hskip (h.2 hb)
         | tup xs =>
           rw [ht] at h
           cases xs with
           | nil =>
             have hy:=yielded_none hgd hrep ht
             have hw:Region.wanted ops[i] (yielded ops a.tmps)=false:=by simp [Region.wanted,hg,hy]
             rw [hw]
             exact hskip h
           | cons _ _=>exact h.elim
         | _=>rw [ht] at h;exact h.elim
theorem any_stage {Γ:Ctr} (hΓ: ∀ f C,Γ f=some C→ACok P f C) (hG: ∀ f R,G f=some R→PureOk P f R) {c0:Cx} {mem0:Mem} {n0 N:Nat} {ops:Array Oper} {k0:Nat} (hD:DrawOk ops k0) (hN: ∀ (i:Nat) (o:Oper),ops[i]?=some o→ ∀ d,o.dst=some d→d<N)
 {Q:Exit→Act→World→Prop} {K:AS→Prop} (hK: ∀ σ a w,K σ→Inv c0 mem0 n0 N σ a w→Q .normal a w) {mem:Mem} {n:Nat} :
 ∀ (fuel:Nat) (listed:Array Bool) (tmp:Nat→PV) (a:Act) (w:World),fuel=(Un ops listed).length→listed.size=ops.size→Closed ops listed→(∀ i,k0≤i→ ¬ Lst listed i) →
   acalm P G ops.toList mem (((Un ops listed).filter (· <k0)).map fun i=>ops.getD i default) tmp (fun tmp=>arun P Γ ops.toList (ops.toList.drop k0) ⟨tmp,mem,n⟩ K)→Inv c0 mem0 n0 N ⟨tmp,mem,n⟩ a w →
   wpAny P .any ops Q fuel listed a w:=by
 intro fuel
 induction fuel with
 | zero =>
   intro listed tmp a w hf hs hc ht h hI
   have hU:Un ops listed=[]:=List.eq_nil_of_length_eq_zero hf.symm
   rw [hU] at h
   have hall: ∀ i,i<ops.size→Lst listed i:=fun i hi=>Classical.byContradiction fun hn=>by
    have:=mem_Un.2 ⟨hi,hn⟩
    rw [hU] at this
    simp at this
   refine seq_stage hΓ hD hN hK 0 k0 listed ⟨tmp,mem,n⟩ a w ?_ (Nat.le_refl _) hD.le hs (fun i hi=>⟨fun hl=>?_,fun _=>hall i hi⟩) h hI
   · have:k0=ops.size:=by
      rcases Nat.lt_or_ge k0 ops.size with hh|hh
      · exact absurd (hall k0 hh) (ht k0 (Nat.le_refl _))
      · have:=hD.le;omega
     omega
   · exact Nat.lt_of_not_le fun hh=>ht i hh hl
 | succ fuel ih =>
   intro listed tmp a w hf hs hc ht h hI
   by_cases hne:(Un ops listed).filter (· <k0)=[]
   · -- the calm ones are done
     rw [hne] at h
     have hall: ∀ i,i<k0→Lst listed i:=fun i hi=>Classical.byContradiction fun hn=>by
      have hm:i ∈ (Un ops listed).filter (· <k0):=List.mem_filter.2 ⟨mem_Un.2 ⟨by have:=hD.le;omega,hn⟩,by simpa using hi⟩
      rw [hne] at hm
      simp at hm
     have hiff: ∀ i,i<ops.size→(Lst listed i↔i<k0):=fun i hi=>⟨fun hl=>Nat.lt_of_not_le fun hh=>ht i hh hl,hall i⟩
     refine seq_stage hΓ hD hN hK (fuel+1) k0 listed ⟨tmp,mem,n⟩ a w ?_ (Nat.le_refl _) hD.le hs hiff h hI
     rw [hf]
     have:Un ops listed=List.range' k0 (ops.size - k0):=by
      unfold Un
      have e1:List.range ops.size=List.range k0++List.range' k0 (ops.size - k0):=by
       have hle:=hD.le
       rw [List.range_eq_range',List.range_eq_range']
       have:=List.range'_append_1 (s:=0) (m:=k0) (n:=ops.size - k0)
       rw [Nat.zero_add] at this
       rw [this]
       congr 1
       omega
      rw [e1,List.filter_append]
      rw [List.filter_eq_nil_iff.2 (fun x hx=>by
       have:=hall x (by simpa using hx)
       unfold Lst at this
       simp [this]),List.nil_append]
      apply List.filter_eq_self.2
      intro x hx
      have hx':k0≤x:=by
       simp only [List.mem_range'_1] at hx
       exact hx.1
      have:=ht x hx'
      unfold Lst at this
      simpa using this
     rw [this,List.length_range']
   · -- one of the calm ones
     obtain ⟨m,hm⟩:=List.exists_mem_of_ne_nil _ hne
     refine ⟨fun hr=>?_,fun i hi=>?_⟩
     · -- the first that is not listed is ready
       exfalso
       have hex: ∃ i,i ∈ Region.ready .any ops listed:=by
        have hmU:=mem_Un.1 (List.mem_filter.1 hm).1
        have: ∀ b,∀ i,i≤b→i<ops.size→ ¬ Lst listed i→ ∃ j,j ∈ Region.ready .any ops listed:=by
         intro b
         induction b with
         | zero =>
           intro i hib his hil
           refine ⟨i,(mem_ready hs).2 ⟨his,hil,fun j he=>?_⟩⟩
           have:=hD.back _ _ he
           omega
         | succ b ihb =>
           intro i hib his hil
           by_cases hq: ∀ j,Edge_ ops j i→Lst listed j
           · exact ⟨i,(mem_ready hs).2 ⟨his,hil,hq⟩⟩
           · obtain ⟨j,hq⟩:=Classical.not_forall.1 hq
             obtain ⟨he,hnl⟩:=Classical.not_imp.1 hq
             have:=hD.back _ _ he
             exact ihb j (by omega) (by omega) hnl
        exact this m m (Nat.le_refl _) hmU.1 hmU.2
       obtain ⟨i,hi⟩:=hex
       rw [hr] at hi
       simp at hi
     · obtain ⟨his,hil,hie⟩:=(mem_ready hs).1 hi
       have hik:i<k0:=by
        rcases Nat.lt_or_ge i k0 with hh|hh
        · exact hh
        · exfalso
          have hmm:=List.mem_filter.1 hm
          have hmU:=mem_Un.1 hmm.1
          have hmk:m<k0:=by simpa using hmm.2
          have hb:=hD.tail m i hh his (by omega)
          have:Lst listed m:=by
           cases hb with
           | one he=>exact hie _ he
           | step hb' he=>exact hc.bef hb' (hie _ he)
          exact hmU.2 this
       have hio:ops[i]?=some ops[i]:=Array.getElem?_eq_getElem his
       have hnd:(Un ops listed).Nodup:=List.Pairwise.filter _ List.nodup_range
       have hiU:i ∈ Un ops listed:=mem_Un.2 ⟨his,hil⟩
       obtain ⟨pre,post,e1,e2,e3⟩:=filter_split (p:=fun j=>decide (j<k0)) hnd hiU (by simpa using hik)
       have hgd:ops.getD i default=ops[i]:=by simp [Array.getD_eq_getD_getElem?,hio]
       rw [e1,List.map_append,List.map_cons,hgd] at h
       have hfront:=acalm_front hG (i:=ops[i]) (pre.map fun i=>ops.getD i default) tmp (fun x hx=>by
        obtain ⟨j,hj,rfl⟩:=List.mem_map.1 hx
        obtain ⟨hjU,hjk⟩:=e3 j hj
        have hjm:=mem_Un.1 hjU
        have hji:j≠i:=by
         rintro rfl
         have:j ∈ pre++post:=by simp [hj]
         rw [← e2] at this
         have:=(List.mem_filter.1 this).2
         simp at this
        have hjg:ops.getD j default=ops[j]'hjm.1:=by simp [Array.getD_eq_getD_getElem?,Array.getElem?_eq_getElem hjm.1]
        rw [hjg]
        rcases Nat.lt_or_ge j i with hlt|hge
        · rcases hD.apart j i _ _ hlt hik (Array.getElem?_eq_getElem hjm.1) hio with he|ha
          · exact absurd (hie _ he) hjm.2
          · exact ha
        · exfalso
          -- pre holds only smaller ones
          have hsorted:(Un ops listed).Pairwise (· < ·):=List.Pairwise.filter _ List.pairwise_lt_range
          have hs2:((Un ops listed).filter fun j=>decide (j<k0)).Pairwise (· < ·):=List.Pairwise.filter _ hsorted
          rw [e1,List.pairwise_append] at hs2
          have:=hs2.2.2 j hj i (by simp)
          omega) h
       have hset:Un ops (listed.setIfInBounds i true)=(Un ops listed).filter (fun j=>!(j == i)):=by
        rw [Un_set (by omega)]
        unfold Un
        rw [List.filter_filter]
        apply List.filter_congr
        intro j _
        rw [Bool.and_comm]
       have hU2:(Un ops (listed.setIfInBounds i true)).filter (fun j=>decide (j<k0))=pre++post:=by
        rw [hset,List.filter_filter,← e2]
       have hlen:fuel=(Un ops (listed.setIfInBounds i true)).length:=by
        obtain ⟨p2,q2,f1,f2,_⟩:=filter_split (p:=fun _=>true) hnd hiU rfl
        rw [List.filter_eq_self.2 (fun _ _=>rfl)] at f1
        have g1:(Un ops listed).length=(p2++i::q2).length:=by rw [f1]
        have g2:(Un ops (listed.setIfInBounds i true)).length=(p2++q2).length:=by rw [hset];exact congrArg List.length f2
        rw [List.length_append,List.length_cons] at g1
        rw [List.length_append] at g2
        omega
       have hcl:Closed ops (listed.setIfInBounds i true):=by
        intro x y he hy
        rw [lst_set (by omega)] at hy ⊢
        rcases hy with rfl|hy
        · exact .inr (hie x he)
        · exact .inr (hc x y he hy)
       have htl: ∀ j,k0≤j→ ¬ Lst (listed.setIfInBounds i true) j:=by
        intro j hj hl
        rw [lst_set (by omega)] at hl
        rcases hl with rfl|hl
        · omega
        · exact ht j hj hl
       have hsz':(listed.setIfInBounds i true).size=ops.size:=by simpa using hs
       have next: ∀ r (c':Cx) v,acalm P G ops.toList mem ((pre++post).map fun i=>ops.getD i default) (putT tmp ops[i].dst r) (fun tmp=>arun P Γ ops.toList (ops.toList.drop k0) ⟨tmp,mem,n⟩ K) →
        Inv c0 mem0 n0 N ⟨putT tmp ops[i].dst r,mem,n⟩ (a.put ops[i].dst v) c'.w→wpAny P .any ops Q fuel (listed.setIfInBounds i true) (a.put ops[i].dst v) c'.w:=by
        intro r c' v hh hI'
        exact ih _ _ _ _ hlen hsz' hcl htl (by rw [hU2];exact hh) hI'
       obtain ⟨c,rfl,hst,hrep,hsz,hdf⟩:=hI
       unfold wpOp
       simp only [hio]
       have hmap:(pre.map fun i=>ops.getD i default)++post.map (fun i=>ops.getD i default)=(pre++post).map fun i=>ops.getD i default:=by rw [List.map_append]
       rw [hmap] at hfront
       unfold gop aG at hfront
       have hop:(aopc P G (evT tmp) ops[i].op mem fun r=>acalm P G ops.toList mem ((pre++post).map fun i=>ops.getD i default) (putT tmp ops[i].dst r) (fun tmp=>arun P Γ ops.toList (ops.toList.drop k0) ⟨tmp,mem,n⟩ K)) →
        ops[i].wp P a c.w (wpAny P .any ops Q fuel (listed.setIfInBounds i true)) Q:=by
        intro hh
        have hΓ': ∀ f C,Γof G f=some C→ACok P f C:=by
         intro f C hf
         unfold Γof at hf
         cases hg:G f with
         | none=>rw [hg] at hf;cases hf
         | some R=>rw [hg] at hf;cases hf;exact pure_ok (hG f R hg)
        refine op_sound hΓ' (aop_of_calm (n:=n) hh) (rep_evT hrep) hst.inv hst.free (fun r c' m k v h1 h2 h3=>?_)
        obtain ⟨h1,rfl,rfl⟩:=h1
        obtain ⟨g1,g2⟩:=rep_put hrep h2.le hsz (hN i _ hio) h3
        exact next r c' v h1 ⟨c',rfl,hst.trans h2,g1,g2,by cases ops[i].dst<;>exact hdf⟩
       have hskip:acalm P G ops.toList mem ((pre++post).map fun i=>ops.getD i default) (putT tmp ops[i].dst (.tup [])) (fun tmp=>arun P Γ ops.toList (ops.toList.drop k0) ⟨tmp,mem,n⟩ K) →
        wpAny P .any ops Q fuel (listed.setIfInBounds i true) (a.put ops[i].dst undef) c.w:=by
        intro hh
        obtain ⟨g1,g2⟩:=rep_put (r:= .tup []) (v:=undef) hrep (.refl c) hsz (hN i _ hio) (rep_skip c)
        exact next (.tup []) c undef hh ⟨c,rfl,hst,g1,g2,by cases ops[i].dst<;>exact hdf⟩
       cases hg:ops[i].guard with
       | none =>
         rw [hg] at hfront
         have hw:Region.wanted ops[i] (yielded ops a.tmps)=true:=by simp [Region.wanted,hg]
         rw [if_pos hw]
         exact .inl (hop hfront)
       | some q =>
         obtain ⟨j,want⟩:=q
         rw [hg] at hfront
         simp only at hfront
         cases hgd:gdst ops.toList j with
         | none=>rw [hgd] at hfront;exact hfront.elim
         | some d =>
           rw [hgd] at hfront
           simp only at hfront
           cases htd:tmp d with
           | bool b =>
             rw [htd] at hfront
             simp only at hfront
             have hy:=yielded_of hgd hrep htd
             by_cases hb:b=want
             · have hw:Region.wanted ops[i] (yielded ops a.tmps)=true:=by simp [Region.wanted,hg,hy,hb]
               rw [if_pos hw]
               exact .inl (hop (hfront.1 hb))
             · have hw:Region.wanted ops[i] (yielded ops a.tmps)=false:=by simp [Region.wanted,hg,hy,hb]
               rw [hw]
               exact hskip (hfront.2 hb)
           | tup xs =>
             rw [htd] at hfront
             cases xs with
             | nil =>
               have hy:=yielded_none hgd hrep htd
               have hw:Region.wanted ops[i] (yielded ops a.tmps)=false:=by simp [Region.wanted,hg,hy]
               rw [hw]
               exact hskip hfront
             | cons _ _=>exact hfront.elim
           | _=>rw [htd] at hfront;exact hfront.elim
/-- A region whose order is drawn: the first k operations are calm. -/
def adraw (P:Program) (G:PCtr) (Γ:Ctr) (ops:Array Oper) (k:Nat) (σ:AS) (K:AS→Prop):Prop :=
 drawB ops k=true∧acalm P G ops.toList σ.mem (ops.toList.take k) σ.tmp fun tmp=>arun P Γ ops.toList (ops.toList.drop k) ⟨tmp,σ.mem,σ.nx⟩ K
theorem adraw_sound {Γ:Ctr} (hΓ: ∀ f C,Γ f=some C→ACok P f C) (hG: ∀ f R,G f=some R→PureOk P f R) {c0:Cx} {mem0:Mem} {n0 N:Nat} {ops:Array Oper} {k id:Nat} (hN: ∀ (i:Nat) (o:Oper),ops[i]?=some o→ ∀ d,o.dst=some d→d<N)
 {Q:Exit→Act→World→Prop} {K:AS→Prop} (hK: ∀ σ a w,K σ→Inv c0 mem0 n0 N σ a w→Q .normal a w) (hm:P.follows .mixedOrders=true) {σ:AS} {a:Act} {w:World} (h:adraw P G Γ ops k σ K) (hI:Inv c0 mem0 n0 N σ a w) :
 (Code.region id ops true).wp P Q a w:=by
 obtain ⟨hB,h⟩:=h
 have hD:=drawB_sound hB
 refine wp_region_any hm ?_
 have hL: ∀ i,¬ Lst (Array.replicate ops.size false) i:=by
  intro i
  unfold Lst
  rw [Array.getD_eq_getD_getElem?,Array.getElem?_replicate]
  split<;>simp
 have hU:Un ops (Array.replicate ops.size false)=List.range ops.size:=by
  unfold Un
  apply List.filter_eq_self.2
  intro x _
  have:=hL x
  unfold Lst at this
  simpa using this
 have hcalm:((Un ops (Array.replicate ops.size false)).filter (· <k)).map (fun i=>ops.getD i default)=ops.toList.take k:=by
  rw [hU]
  have e1:(List.range ops.size).filter (fun i=>decide (i<k))=List.range k:=by
   have hle:=hD.le
   have e1:List.range ops.size=List.range k++List.range' k (ops.size - k):=by
    rw [List.range_eq_range',List.range_eq_range']
    have:=List.range'_append_1 (s:=0) (m:=k) (n:=ops.size - k)
    rw [Nat.zero_add] at this
    rw [this]
    congr 1
    omega
   rw [e1,List.filter_append,List.filter_eq_self.2 (fun x hx=>by simpa using hx),List.filter_eq_nil_iff.2 (fun x hx=>by simp only [List.mem_range'_1] at hx;simp;omega),List.append_nil]
  rw [e1]
  apply List.ext_getElem?
  intro j
  rw [List.getElem?_map,List.getElem?_take]
  by_cases hj:j<k
  · have hjs:j<ops.size:=by have:=hD.le;omega
    simp [hj,Array.getD_eq_getD_getElem?,hjs]
  · simp [hj]
 obtain ⟨c,rfl,hst,hrep,hsz,hdf⟩:=hI
 have hdrew:Inv c0 mem0 n0 N ⟨σ.tmp,σ.mem,σ.nx⟩ a c.w.drew:=by
  let c':Cx:=⟨c.w.drew,c.fz,c.ρ⟩
  have st:Step c σ.mem σ.nx c' σ.mem σ.nx:=Step.later hst.inv hst.free rfl (fun _ h=>h) (Below.refl _ _).drew (fun b hb=> .inl hb)
  exact ⟨c',rfl,hst.trans st,fun j=>Rep.mono _ st.le (hrep j),hsz,hdf⟩
 refine any_stage hΓ hG hD hN hK (n:=σ.nx) (mem:=σ.mem) ops.size _ σ.tmp a c.w.drew (by rw [hU,List.length_range]) (by simp) (fun i j _ hj=>absurd hj (hL j)) (fun i _=>hL i) (by rw [hcalm];exact h) hdrew
end
end Go.Proofs.YtnbjogilidfkdaaGreat
