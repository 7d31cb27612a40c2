/- Regions whose order is drawn, with operations that change named memory in more than one order: a tree of orders. No program. -/
import Derived.Test.YtnbjogilidfkdaaGreatVFX

namespace Go.Proofs.YtnbjogilidfkdaaGreat
set_option maxRecDepth 100000
set_option linter.unusedVariables false
set_option linter.unusedSimpArgs false
open Go.RowKit
mutual
/-- Calm operations, then one of these that change memory. -/
inductive MN where
 | mk (cs:List Nat) (ch:MC)
inductive MC where
 | nil
 | cons (i:Nat) (t:MN) (r:MC)
end
def MC.mem (j:Nat):MC→Prop
 | .nil=>False
 | .cons i _ r=>j=i∨r.mem j
def MC.isNil:MC→Bool
 | .nil=>true
 | _=>false
def MC.memB (j:Nat):MC→Bool
 | .nil=>false
 | .cons i _ r=>j == i || r.memB j
section
variable {P:Program} {G:PCtr}
mutual
def amixN (P:Program) (G:PCtr) (Γ:Ctr) (ops:Array Oper) (mc:Mem):MN→AS→(AS→Prop)→Prop
 | .mk cs ch,σ,K=>amix P G Γ ops.toList mc (cs.map fun i=>(true,ops.getD i default)) σ fun σ'=>amixC P G Γ ops mc ch σ' K
/-- Whichever comes next. -/
def amixC (P:Program) (G:PCtr) (Γ:Ctr) (ops:Array Oper) (mc:Mem):MC→AS→(AS→Prop)→Prop
 | .nil,σ,K=>K σ
 | .cons i t .nil,σ,K=>gpe P Γ ops.toList (ops.getD i default) σ.tmp σ.mem σ.nx fun r m n=>SubM mc m∧amixN P G Γ ops mc t ⟨putT σ.tmp (ops.getD i default).dst r,m,n⟩ K
 | .cons i t r,σ,K=>(gpe P Γ ops.toList (ops.getD i default) σ.tmp σ.mem σ.nx fun r m n=>SubM mc m∧amixN P G Γ ops mc t ⟨putT σ.tmp (ops.getD i default).dst r,m,n⟩ K)∧amixC P G Γ ops mc r σ K
end
/-- The child i has the tree t. -/
def MC.child (i:Nat) (t:MN):MC→Prop
 | .nil=>False
 | .cons j u r=>(i=j∧t=u)∨r.child i t
theorem MC.child_of_mem {j:Nat}: ∀ {ch:MC},ch.mem j→ ∃ t,ch.child j t
 | .nil,h=>h.elim
 | .cons i u r,h=>by
   rcases h with rfl|h
   · exact ⟨u,.inl ⟨rfl,rfl⟩⟩
   · obtain ⟨t,ht⟩:=MC.child_of_mem h
     exact ⟨t,.inr ht⟩
theorem amixC_child {Γ:Ctr} {ops:Array Oper} {mc:Mem} {σ:AS} {K:AS→Prop} {i:Nat} {t:MN}: ∀ {ch:MC},amixC P G Γ ops mc ch σ K→ch.child i t →
 gpe P Γ ops.toList (ops.getD i default) σ.tmp σ.mem σ.nx fun r m n=>SubM mc m∧amixN P G Γ ops mc t ⟨putT σ.tmp (ops.getD i default).dst r,m,n⟩ K
 | .nil,_,h=>h.elim
 | .cons j u .nil,h,hc=>by
   rcases hc with ⟨rfl,rfl⟩|hc
   · unfold amixC at h;exact h
   · exact hc.elim
 | .cons j u (.cons k v r),h,hc=>by
   unfold amixC at h
   rcases hc with ⟨rfl,rfl⟩|hc
   · exact h.1
   · exact amixC_child h.2 hc
theorem amix_append {Γ:Ctr} {all:List Oper} {mc:Mem} {K:AS→Prop}: ∀ (a b:List (Bool×Oper)) (σ:AS),amix P G Γ all mc (a++b) σ K↔amix P G Γ all mc a σ fun σ'=>amix P G Γ all mc b σ' K
 | [],b,σ=>Iff.rfl
 | (true,o)::a,b,σ=>by
  rw [List.cons_append,amix,amix]
  have:(fun r=>amix P G Γ all mc (a++b) ⟨putT σ.tmp o.dst r,σ.mem,σ.nx⟩ K)=fun r=>amix P G Γ all mc a ⟨putT σ.tmp o.dst r,σ.mem,σ.nx⟩ fun σ'=>amix P G Γ all mc b σ' K:=by
   funext r;exact propext (amix_append a b _)
  rw [this]
 | (false,o)::a,b,σ=>by
  rw [List.cons_append,amix,amix]
  have:(fun r m n=>SubM mc m∧amix P G Γ all mc (a++b) ⟨putT σ.tmp o.dst r,m,n⟩ K)=fun r m n=>SubM mc m∧amix P G Γ all mc a ⟨putT σ.tmp o.dst r,m,n⟩ fun σ'=>amix P G Γ all mc b σ' K:=by
   funext r m n;exact propext (and_congr_right fun _=>amix_append a b _)
  rw [this]
theorem amix_mono (hG: ∀ f R,G f=some R→PureOk P f R) {Γ:Ctr} {all:List Oper} {mc:Mem} {K K':AS→Prop} (hk: ∀ σ,K σ→K' σ): ∀ (a:List (Bool×Oper)) (σ:AS),(∀ x ∈ a,x.1=true)→amix P G Γ all mc a σ K→amix P G Γ all mc a σ K'
 | [],σ,_,h=>hk σ h
 | (true,o)::a,σ,ha,h=>by
  rw [amix] at h ⊢
  exact (fun_gpd hG all mc o σ.tmp).mono (fun r hr=>amix_mono hG hk a _ (fun x hx=>ha x (by simp [hx])) hr) h
 | (false,o)::a,σ,ha,h=>absurd (ha (false,o) (by simp)) (by simp)
/-- Calm ones: each stands behind what binds it, and those ahead of it are behind nothing or apart. -/
def csB (ops:Array Oper) (cal:Nat→Bool):List Nat→List Nat→Bool
 | _,[]=>true
 | ab,j::r=>decide (j<ops.size) && cal j && !ab.contains j &&
    (match ops[j]? with
      | some y=>(y.after.all fun e=>!Region.binds .any e || ab.contains e.on) &&
         ab.all fun i=>!cal i || befB ops ops.size i j || match ops[i]? with
          | some x=>x.apart ops y
          | none=>false
      | none=>false) && csB ops cal (ab++[j]) r
/-- One that changes memory, behind these. -/
def effB (ops:Array Oper) (cal:Nat→Bool) (ab:List Nat) (j:Nat):Bool:=decide (j<ops.size) && !cal j && !ab.contains j &&
 (match ops[j]? with
   | some y=>(y.after.all fun e=>!Region.binds .any e || ab.contains e.on) &&
      ab.all fun i=>!cal i || befB ops ops.size i j || match ops[i]? with
       | some x=>x.apart ops y
       | none=>false
   | none=>false)
mutual
def treeB (ops:Array Oper) (cal:Nat→Bool):List Nat→MN→Bool
 | ab,.mk cs ch=>csB ops cal ab cs &&
    ((List.range ops.size).all fun j=>(ab++cs).contains j || ch.memB j || (List.range ops.size).any fun x=>!(ab++cs).contains x && !cal x && befB ops ops.size x j) &&
    (!ch.isNil || (List.range ops.size).all fun j=>(ab++cs).contains j) &&
    chB ops cal (ab++cs) ch
def chB (ops:Array Oper) (cal:Nat→Bool):List Nat→MC→Bool
 | _,.nil=>true
 | ab,.cons i t r=>effB ops cal ab i && treeB ops cal (ab++[i]) t && chB ops cal ab r
end
def CsOk (ops:Array Oper) (cal:Nat→Bool) (ab:List Nat) (j:Nat):Prop :=
 j<ops.size∧j ∉ ab∧(∀ i,Edge_ ops i j→i ∈ ab)∧ ∀ i ∈ ab,cal i=true→Bef ops i j∨ ∀ x y,ops[i]?=some x→ops[j]?=some y→x.apart ops y=true
theorem cs_one {ops:Array Oper} {cal:Nat→Bool} {ab:List Nat} {j:Nat} (h0:j<ops.size) (h1:ab.contains j=false)
 (h2 : (match ops[j]? with
     | some y=>(y.after.all fun e=>!Region.binds .any e || ab.contains e.on) &&
        ab.all fun i=>!cal i || befB ops ops.size i j || match ops[i]? with
         | some x=>x.apart ops y
         | none=>false
     | none=>false)=true):CsOk ops cal ab j:=by
 have hj:ops[j]?=some ops[j]:=Array.getElem?_eq_getElem h0
 rw [hj] at h2
 simp only [Bool.and_eq_true,List.all_eq_true,Array.all_eq_true'] at h2
 obtain ⟨h3,h4⟩:=h2
 refine ⟨h0,by simpa using h1,fun i he=>?_,fun i hi hc=>?_⟩
 · obtain ⟨o,ho,e,hem,hb,rfl⟩:=he
   rw [hj] at ho
   cases ho
   have:=h3 e hem
   rw [hb] at this
   simpa using this
 · have:=h4 i hi
   rw [hc] at this
   simp only [Bool.not_true,Bool.false_or,Bool.or_eq_true] at this
   rcases this with h|h
   · exact .inl (befB_sound _ h)
   · refine .inr fun x y hx hy=>?_
     rw [hj] at hy
     cases hy
     rw [hx] at h
     exact h
theorem cs_all {ops:Array Oper} {cal:Nat→Bool}: ∀ (cs ab:List Nat),csB ops cal ab cs=true→ ∀ pre j post,cs=pre++j::post→cal j=true∧CsOk ops cal (ab++pre) j
 | [],ab,_,pre,j,post,e=>by simp at e
 | c::cs,ab,h,pre,j,post,e=>by
   simp only [csB,Bool.and_eq_true,decide_eq_true_eq,Bool.not_eq_true'] at h
   obtain ⟨⟨⟨⟨h0,h1⟩,h2⟩,h3⟩,h4⟩:=h
   cases pre with
   | nil =>
     simp only [List.nil_append,List.cons.injEq] at e
     obtain ⟨rfl,rfl⟩:=e
     rw [List.append_nil]
     exact ⟨h1,cs_one h0 h2 h3⟩
   | cons p pre =>
     simp only [List.cons_append,List.cons.injEq] at e
     obtain ⟨rfl,rfl⟩:=e
     have:=cs_all _ (ab++[c]) h4 pre j post rfl
     rw [List.append_assoc] at this
     simpa using this
theorem eff_one {ops:Array Oper} {cal:Nat→Bool} {ab:List Nat} {j:Nat} (h:effB ops cal ab j=true):cal j=false∧CsOk ops cal ab j:=by
 simp only [effB,Bool.and_eq_true,decide_eq_true_eq,Bool.not_eq_true'] at h
 obtain ⟨⟨⟨h0,h1⟩,h2⟩,h3⟩:=h
 exact ⟨h1,cs_one h0 h2 h3⟩
theorem ch_child {ops:Array Oper} {cal:Nat→Bool} {ab:List Nat} {i:Nat} {t:MN}: ∀ {ch:MC},chB ops cal ab ch=true→ch.child i t→effB ops cal ab i=true∧treeB ops cal (ab++[i]) t=true
 | .nil,_,h=>h.elim
 | .cons j u r,h,hc=>by
   simp only [chB,Bool.and_eq_true] at h
   rcases hc with ⟨rfl,rfl⟩|hc
   · exact h.1
   · exact ch_child h.2 hc
theorem memB_iff {j:Nat}: ∀ {ch:MC},ch.memB j=true↔ch.mem j
 | .nil=>by simp [MC.memB,MC.mem]
 | .cons i t r=>by simp [MC.memB,MC.mem,memB_iff (ch:=r)]
theorem filter_before {α:Type} {p:α→Bool} {i:α}: ∀ {l pre post:List α},l.filter p=pre++i::post→ ∃ a b,l=a++i::b∧pre=a.filter p
 | [],pre,post,h=>by simp at h
 | x::l,pre,post,h=>by
   by_cases hx:p x=true
   · rw [List.filter_cons_of_pos hx] at h
     cases pre with
     | nil =>
       simp only [List.nil_append,List.cons.injEq] at h
       exact ⟨[],l,by rw [h.1];rfl,rfl⟩
     | cons y pre =>
       simp only [List.cons_append,List.cons.injEq] at h
       obtain ⟨a,b,e1,e2⟩:=filter_before h.2
       exact ⟨x::a,b,by rw [e1];rfl,by rw [List.filter_cons_of_pos hx,← e2,h.1]⟩
   · rw [List.filter_cons_of_neg hx] at h
     obtain ⟨a,b,e1,e2⟩:=filter_before h
     exact ⟨x::a,b,by rw [e1];rfl,by rw [List.filter_cons_of_neg hx,← e2]⟩
theorem csB_nodup {ops:Array Oper} {cal:Nat→Bool}: ∀ (cs ab:List Nat),csB ops cal ab cs=true→ab.Nodup→(ab++cs).Nodup
 | [],ab,_,h=>by simpa using h
 | c::cs,ab,h,hn=>by
   simp only [csB,Bool.and_eq_true,decide_eq_true_eq,Bool.not_eq_true'] at h
   obtain ⟨⟨⟨⟨h0,h1⟩,h2⟩,h3⟩,h4⟩:=h
   have:(ab++[c]).Nodup:=by
    rw [List.nodup_append]
    refine ⟨hn,by simp,fun x hx y hy=>?_⟩
    obtain rfl:=List.mem_singleton.1 hy
    rintro rfl
    simp only [List.contains_eq_mem,decide_eq_false_iff_not] at h2
    exact h2 hx
   have:=csB_nodup cs (ab++[c]) h4 this
   rwa [List.append_assoc] at this
/-- The orders of the tree are all orders. -/
theorem tree_stage {Γ:Ctr} (hΓ: ∀ f C,Γ f=some C→ACok P f C) (hG: ∀ f R,G f=some R→PureOk P f R) {c0:Cx} {mem0:Mem} {n0 N:Nat} {ops:Array Oper} {cal:Nat→Bool} (hN: ∀ (i:Nat) (o:Oper),ops[i]?=some o→ ∀ d,o.dst=some d→d<N)
 {Q:Exit→Act→World→Prop} {K:AS→Prop} (hK: ∀ σ a w,K σ→Inv c0 mem0 n0 N σ a w→Q .normal a w) {mc:Mem} :
 ∀ (fuel:Nat) (listed:Array Bool) (ab cs:List Nat) (ch:MC) (σ:AS) (a:Act) (w:World),fuel=(Un ops listed).length→listed.size=ops.size→Closed ops listed→SubM mc σ.mem →
   treeB ops cal ab (.mk cs ch)=true→(ab++cs).Nodup→(∀ x ∈ ab,x<ops.size)→(∀ x,Lst listed x→x ∈ ab++cs)→(∀ x ∈ ab,cal x=false→Lst listed x) →
   (∀ pre j post,ab=pre++j::post→(∀ i,Edge_ ops i j→i ∈ pre)∧ ∀ i ∈ pre,cal i=true→Bef ops i j∨ ∀ x y,ops[i]?=some x→ops[j]?=some y→x.apart ops y=true) →
   amix P G Γ ops.toList mc (((ab++cs).filter fun i=>!listed.getD i false).map fun i=>(true,ops.getD i default)) σ (fun σ'=>amixC P G Γ ops mc ch σ' K)→Inv c0 mem0 n0 N σ a w →
   wpAny P .any ops Q fuel listed a w:=by
 intro fuel
 induction fuel with
 | zero =>
   intro listed ab cs ch σ a w hf hs hc hsub hT hnd hlt hL hE hB h hI
   have hU:Un ops listed=[]:=List.eq_nil_of_length_eq_zero hf.symm
   have hall: ∀ i,i<ops.size→Lst listed i:=fun i hi=>Classical.byContradiction fun hn=>by
    have:=mem_Un.2 ⟨hi,hn⟩
    rw [hU] at this;simp at this
   simp only [treeB,Bool.and_eq_true] at hT
   obtain ⟨⟨⟨hT1,hT2⟩,hT4⟩,hT3⟩:=hT
   have hpend:((ab++cs).filter fun i=>!listed.getD i false)=[]:=by
    apply List.filter_eq_nil_iff.2
    intro x hx
    have hxs:x<ops.size:=by
     rcases List.mem_append.1 hx with h|h
     · exact hlt x h
     · obtain ⟨p,q,e⟩:=List.append_of_mem h
       exact (cs_all cs ab hT1 p x q e).2.1
    have:=hall x hxs
    unfold Lst at this
    simp [this]
   rw [hpend] at h
   have hch:ch= .nil:=by
    cases ch with
    | nil=>rfl
    | cons i t r =>
      exfalso
      simp only [chB,Bool.and_eq_true] at hT3
      have:=eff_one hT3.1.1
      exact this.2.2.1 (hL i (hall i this.2.1))
   subst hch
   refine ⟨?_,hK σ a w (by simpa [amix,amixC] using h) hI⟩
   apply List.eq_nil_iff_forall_not_mem.2
   intro i hi
   rw [mem_ready hs] at hi
   exact hi.2.1 (hall i hi.1)
 | succ fuel ih =>
   intro listed ab cs ch σ a w hf hs hc hsub hT hnd hlt hL hE hB h hI
   have hT0:=hT
   simp only [treeB,Bool.and_eq_true] at hT
   obtain ⟨⟨⟨hT1,hT2⟩,hT4⟩,hT3⟩:=hT
   have hcs:=cs_all cs ab hT1
   have hin: ∀ x ∈ ab++cs,x<ops.size:=by
    intro x hx
    rcases List.mem_append.1 hx with h|h
    · exact hlt x h
    · obtain ⟨p,q,e⟩:=List.append_of_mem h
      exact (hcs p x q e).2.1
   have hB2: ∀ pre j post,ab++cs=pre++j::post→(∀ i,Edge_ ops i j→i ∈ pre)∧ ∀ i ∈ pre,cal i=true→Bef ops i j∨ ∀ x y,ops[i]?=some x→ops[j]?=some y→x.apart ops y=true:=by
    intro pre j post e
    rcases List.append_eq_append_iff.1 e with ⟨z,e1,e2⟩|⟨z,e1,e2⟩
    · have:=(hcs z j post e2).2
      rw [← e1] at this
      exact ⟨this.2.2.1,this.2.2.2⟩
    · cases z with
      | nil =>
        simp only [List.append_nil,List.nil_append] at e1 e2
        have:=(hcs [] j post (by simpa using e2.symm)).2
        simp only [List.append_nil] at this
        rw [e1] at this
        exact ⟨this.2.2.1,this.2.2.2⟩
      | cons y z =>
        simp only [List.cons_append,List.cons.injEq] at e2
        obtain ⟨rfl,e2⟩:=e2
        exact hB pre _ z e1
   have hready: ∀ i,i ∈ Region.ready .any ops listed→i ∈ ab++cs∨ch.mem i:=by
    intro i hi
    obtain ⟨his,hil,hie⟩:=(mem_ready hs).1 hi
    rw [List.all_eq_true] at hT2
    have:=hT2 i (List.mem_range.2 his)
    simp only [Bool.or_eq_true,List.any_eq_true,Bool.and_eq_true,Bool.not_eq_true',List.mem_range] at this
    rcases this with (h|h)|⟨x,hx,⟨h1,h2⟩,h3⟩
    · exact .inl (by simpa using h)
    · exact .inr (memB_iff.1 h)
    · exfalso
      have hb:=befB_sound _ h3
      have hxl:Lst listed x:=by
       cases hb with
       | one he=>exact hie _ he
       | step hb' he=>exact hc.bef hb' (hie _ he)
      have:=hL x hxl
      simp only [List.contains_eq_mem,decide_eq_false_iff_not] at h1
      exact h1 this
   have hcalm: ∀ x ∈ ab++cs,¬ Lst listed x→cal x=true:=by
    intro x hx hl
    rcases List.mem_append.1 hx with h|h
    · cases hcx:cal x with
      | true=>rfl
      | false=>exact absurd (hE x h hcx) hl
    · obtain ⟨p,q,e⟩:=List.append_of_mem h
      exact (hcs p x q e).1
   have hget: ∀ x,x<ops.size→ops[x]?=some (ops.getD x default):=fun x hx=>by
    rw [Array.getD_eq_getD_getElem?,Array.getElem?_eq_getElem hx];rfl
   refine ⟨fun hr=>?_,fun i hi=>?_⟩
   · exfalso
     cases hp:((ab++cs).filter fun i=>!listed.getD i false) with
     | cons m rest =>
       have hm:m ∈ ab++cs∧ ¬ Lst listed m:=by
        have:m ∈ ((ab++cs).filter fun i=>!listed.getD i false):=by rw [hp];simp
        rw [List.mem_filter] at this
        refine ⟨this.1,?_⟩
        unfold Lst;simpa using this.2
       obtain ⟨p,q,e,e'⟩:=filter_before (pre:=[]) (i:=m) (post:=rest) hp
       have:m ∈ Region.ready .any ops listed:=by
        rw [mem_ready hs]
        refine ⟨hin m hm.1,hm.2,fun j he=>?_⟩
        have hjp:=(hB2 p m q e).1 j he
        refine Classical.byContradiction fun hn=>?_
        have hjf:j ∈ p.filter (fun i=>!listed.getD i false):=List.mem_filter.2 ⟨hjp,by unfold Lst at hn;simpa using hn⟩
        rw [← e'] at hjf
        simp at hjf
       rw [hr] at this
       simp at this
     | nil =>
       have hallL: ∀ x ∈ ab++cs,Lst listed x:=by
        intro x hx
        refine Classical.byContradiction fun hn=>?_
        have:x ∈ ((ab++cs).filter fun i=>!listed.getD i false):=List.mem_filter.2 ⟨hx,by unfold Lst at hn;simpa using hn⟩
        rw [hp] at this;simp at this
       cases ch with
       | cons j t r =>
         simp only [chB,Bool.and_eq_true] at hT3
         have hj:=eff_one hT3.1.1
         have:j ∈ Region.ready .any ops listed:=by
          rw [mem_ready hs]
          exact ⟨hj.2.1,fun hl=>hj.2.2.1 (hL j hl),fun i he=>hallL i (hj.2.2.2.1 i he)⟩
         rw [hr] at this
         simp at this
       | nil =>
         have:Un ops listed=[]:=by
          apply List.eq_nil_iff_forall_not_mem.2
          intro x hx
          obtain ⟨hxs,hxl⟩:=mem_Un.1 hx
          simp only [MC.isNil,Bool.not_true,Bool.false_or,List.all_eq_true,List.mem_range] at hT4
          exact hxl (hallL x (by simpa using hT4 x hxs))
         rw [this] at hf
         simp at hf
   · obtain ⟨his,hil,hie⟩:=(mem_ready hs).1 hi
     have hio:ops[i]?=some ops[i]:=Array.getElem?_eq_getElem his
     have hgd:ops.getD i default=ops[i]:=by simp [Array.getD_eq_getD_getElem?,hio]
     have hnbef: ∀ j,¬ Lst listed j→ ¬ Bef ops j i:=by
      intro j hjl hb
      apply hjl
      cases hb with
      | one he=>exact hie _ he
      | step hb' he=>exact hc.bef hb' (hie _ he)
     have hlen:fuel=(Un ops (listed.setIfInBounds i true)).length:=by
      obtain ⟨p,q,e1,e2,_⟩:=filter_split (p:=fun j=>!listed.getD j false) (l:=List.range ops.size) (i:=i) List.nodup_range (List.mem_range.2 his) (by unfold Lst at hil;simpa using hil)
      have g1:fuel+1=(p++i::q).length:=by rw [hf,← e1];rfl
      rw [Un_set (by omega),e2]
      rw [List.length_append,List.length_cons] at g1
      rw [List.length_append]
      omega
     have hcl:Closed ops (listed.setIfInBounds i true):=by
      intro x y he hy
      rw [lst_set (by omega)] at hy ⊢
      rcases hy with rfl|hy
      · exact .inr (hie x he)
      · exact .inr (hc x y he hy)
     have hsz':(listed.setIfInBounds i true).size=ops.size:=by simpa using hs
     have hset: ∀ j,(listed.setIfInBounds i true).getD j false=(decide (j=i) || listed.getD j false):=by
      intro j
      simp only [Array.getD_eq_getD_getElem?,Array.getElem?_setIfInBounds]
      by_cases e:i=j
      · subst e
        have:i<listed.size:=by omega
        simp [this]
      · rw [if_neg e]
        have: ¬ j=i:=fun h=>e h.symm
        simp [this]
     obtain ⟨c,rfl,hst,hrep,hsz,hdf⟩:=hI
     unfold wpOp
     simp only [hio]
     -- what its test says
     have test: ∀ (A:Prop) (B:Prop),aG ops.toList σ.tmp ops[i].guard A B→(A→ops[i].wp P a c.w (wpAny P .any ops Q fuel (listed.setIfInBounds i true)) Q)→(B→wpAny P .any ops Q fuel (listed.setIfInBounds i true) (a.put ops[i].dst undef) c.w) →
      (if Region.wanted ops[i] (yielded ops a.tmps)=true then ops[i].wp P a c.w (wpAny P .any ops Q fuel (listed.setIfInBounds i true)) Q∨(ops[i].asks P a c.w∧LetsOut Q) else wpAny P .any ops Q fuel (listed.setIfInBounds i true) (a.put ops[i].dst undef) c.w):=by
      intro A B hq hA hB
      unfold aG at hq
      cases hg:ops[i].guard with
      | none =>
        rw [hg] at hq
        have hw:Region.wanted ops[i] (yielded ops a.tmps)=true:=by simp [Region.wanted,hg]
        rw [if_pos hw]
        exact .inl (hA hq)
      | some q =>
        obtain ⟨j,want⟩:=q
        rw [hg] at hq
        simp only at hq
        cases hgd:gdst ops.toList j with
        | none=>rw [hgd] at hq;exact hq.elim
        | some d =>
          rw [hgd] at hq
          simp only at hq
          cases htd:σ.tmp d with
          | bool b =>
            rw [htd] at hq
            simp only at hq
            have hy:=yielded_of hgd hrep htd
            by_cases hb:b=want
            · have hw:Region.wanted ops[i] (yielded ops a.tmps)=true:=by simp [Region.wanted,hg,hy,hb]
              rw [if_pos hw]
              exact .inl (hA (hq.1 hb))
            · have hw:Region.wanted ops[i] (yielded ops a.tmps)=false:=by simp [Region.wanted,hg,hy,hb]
              rw [hw]
              exact hB (hq.2 hb)
          | tup xs =>
            rw [htd] at hq
            cases xs with
            | nil =>
              have hy:=yielded_none hgd hrep htd
              have hw:Region.wanted ops[i] (yielded ops a.tmps)=false:=by simp [Region.wanted,hg,hy]
              rw [hw]
              exact hB hq
            | cons _ _=>exact hq.elim
          | _=>rw [htd] at hq;exact hq.elim
     obtain ⟨s1,s2⟩:=rep_put (r:= .tup []) (v:=undef) hrep (.refl c) hsz (hN i _ hio) (rep_skip c)
     have hskI:Inv c0 mem0 n0 N ⟨putT σ.tmp ops[i].dst (.tup []),σ.mem,σ.nx⟩ (a.put ops[i].dst undef) c.w:=⟨c,rfl,hst,s1,s2,by cases ops[i].dst<;>exact hdf⟩
     rcases hready i hi with hmem|hmem
     · -- a calm one
       have hci:=hcalm i hmem hil
       obtain ⟨pre,post,e1,e2,_⟩:=filter_split (p:=fun j=>!listed.getD j false) hnd hmem (by unfold Lst at hil;simpa using hil)
       obtain ⟨p,q,ep,epre⟩:=filter_before e1
       have hpre: ∀ j ∈ pre.map (fun i=>(true,ops.getD i default)),j.1=true∧j.2.apart ops ops[i]=true:=by
        intro x hx
        obtain ⟨j,hj,rfl⟩:=List.mem_map.1 hx
        rw [epre,List.mem_filter] at hj
        obtain ⟨hjp,hjl⟩:=hj
        have hjl': ¬ Lst listed j:=by unfold Lst;simpa using hjl
        have hjin:j ∈ ab++cs:=by rw [ep];simp [hjp]
        have hjs:=hin j hjin
        refine ⟨rfl,?_⟩
        rcases (hB2 p i q ep).2 j hjp (hcalm j hjin hjl') with hb|hb
        · exact absurd hb (hnbef j hjl')
        · exact hb _ _ (hget j hjs) hio
       have hset2:((ab++cs).filter fun j=>!(listed.setIfInBounds i true).getD j false)=pre++post:=by
        rw [← e2]
        apply List.filter_congr
        intro j _
        rw [hset j]
        by_cases e:j=i<;>simp [e]
       have next: ∀ (σ':AS) (w':World) v,SubM mc σ'.mem→amix P G Γ ops.toList mc ((pre++post).map fun i=>(true,ops.getD i default)) σ' (fun σ'=>amixC P G Γ ops mc ch σ' K) →
        Inv c0 mem0 n0 N σ' (a.put ops[i].dst v) w'→wpAny P .any ops Q fuel (listed.setIfInBounds i true) (a.put ops[i].dst v) w':=by
        intro σ' w' v hsub' hh hI'
        refine ih _ ab cs ch _ _ _ hlen hsz' hcl hsub' hT0 hnd hlt (fun x hx=>?_) (fun x hx hcx=>?_) hB (by rw [hset2];exact hh) hI'
        · rw [lst_set (by omega)] at hx
          rcases hx with rfl|hx
          · exact hmem
          · exact hL x hx
        · rw [lst_set (by omega)]
          exact .inr (hE x hx hcx)
       rw [e1,List.map_append,List.map_cons,hgd] at h
       have hfront:=amix_frontC hG (i:=ops[i]) (pre.map fun i=>(true,ops.getD i default)) σ hpre h
       rw [← List.map_append] at hfront
       refine test _ _ hfront (fun hh=>?_) (fun hh=>next ⟨putT σ.tmp ops[i].dst (.tup []),σ.mem,σ.nx⟩ c.w undef hsub hh hskI)
       refine opd_sound hG (mem:=mc) (n:=σ.nx) hh (rep_evT hrep) (hsub.inv hst.inv) hst.free (fun r c' v q1 q2 q3=>?_)
       have st:=Step.more hst.inv hsub q2
       obtain ⟨g1,g2⟩:=rep_put hrep st.le hsz (hN i _ hio) q3
       exact next ⟨putT σ.tmp ops[i].dst r,σ.mem,σ.nx⟩ c'.w v hsub q1 ⟨c',rfl,hst.trans st,g1,g2,by cases ops[i].dst<;>exact hdf⟩
     · -- one that changes memory
       obtain ⟨⟨cs',ch'⟩,hchild⟩:=MC.child_of_mem hmem
       obtain ⟨hef,htr⟩:=ch_child hT3 hchild
       obtain ⟨hci,_,hnin,hedge,hap⟩:=eff_one hef
       have hpend: ∀ j ∈ ((ab++cs).filter fun i=>!listed.getD i false).map (fun i=>(true,ops.getD i default)),j.1=true∧j.2.apart ops ops[i]=true:=by
        intro x hx
        obtain ⟨j,hj,rfl⟩:=List.mem_map.1 hx
        rw [List.mem_filter] at hj
        obtain ⟨hjin,hjl⟩:=hj
        have hjl': ¬ Lst listed j:=by unfold Lst;simpa using hjl
        refine ⟨rfl,?_⟩
        rcases hap j hjin (hcalm j hjin hjl') with hb|hb
        · exact absurd hb (hnbef j hjl')
        · exact hb _ _ (hget j (hin j hjin)) hio
       have h1:=amix_mono hG (fun σ' hh=>amixC_child hh hchild) _ σ (fun x hx=>(hpend x hx).1) h
       rw [hgd] at h1
       have h2:amix P G Γ ops.toList mc (((ab++cs).filter fun i=>!listed.getD i false).map (fun i=>(true,ops.getD i default))++[(false,ops[i])]) σ (fun σ'=>amixN P G Γ ops mc (.mk cs' ch') σ' K):=(amix_append _ _ σ).2 h1
       have hfront:=amix_frontE hG (i:=ops[i]) (post:=[]) _ σ hpend h2
       rw [List.append_nil] at hfront
       have hnd':(ab++cs++[i]++cs').Nodup:=by
        have htr':=htr
        simp only [treeB,Bool.and_eq_true] at htr'
        refine csB_nodup cs' _ htr'.1.1.1 ?_
        rw [List.nodup_append]
        refine ⟨hnd,by simp,fun x hx y hy=>?_⟩
        obtain rfl:=List.mem_singleton.1 hy
        rintro rfl
        exact hnin hx
       have hLst': ∀ x,Lst (listed.setIfInBounds i true) x→x ∈ ab++cs++[i]:=by
        intro x hx
        rw [lst_set (by omega)] at hx
        rcases hx with rfl|hx
        · simp
        · exact List.mem_append.2 (.inl (hL x hx))
       have hset2:((ab++cs++[i]++cs').filter fun j=>!(listed.setIfInBounds i true).getD j false)=((ab++cs).filter fun j=>!listed.getD j false)++cs':=by
        rw [List.filter_append,List.filter_append]
        congr 1
        · have e1:[i].filter (fun j=>!(listed.setIfInBounds i true).getD j false)=[]:=by simp [hset]
          rw [e1,List.append_nil]
          apply List.filter_congr
          intro j hj
          have: ¬ j=i:=by rintro rfl;exact hnin hj
          rw [hset j];simp [this]
        · apply List.filter_eq_self.2
          intro x hx
          have hxl: ¬ Lst (listed.setIfInBounds i true) x:=fun hl=>by
           rw [List.nodup_append] at hnd'
           exact hnd'.2.2 x (hLst' x hl) x hx rfl
          unfold Lst at hxl
          simpa using hxl
       have next: ∀ (σ':AS) (w':World) v,SubM mc σ'.mem→amix P G Γ ops.toList mc (((ab++cs).filter fun i=>!listed.getD i false).map (fun i=>(true,ops.getD i default))) σ' (fun σ'=>amixN P G Γ ops mc (.mk cs' ch') σ' K) →
        Inv c0 mem0 n0 N σ' (a.put ops[i].dst v) w'→wpAny P .any ops Q fuel (listed.setIfInBounds i true) (a.put ops[i].dst v) w':=by
        intro σ' w' v hsub' hh hI'
        refine ih _ (ab++cs++[i]) cs' ch' _ _ _ hlen hsz' hcl hsub' htr hnd' (fun x hx=>?_) (fun x hx=>List.mem_append.2 (.inl (hLst' x hx))) (fun x hx hcx=>?_) (fun pre j post e=>?_) ?_ hI'
        · rcases List.mem_append.1 hx with hx|hx
          · exact hin x hx
          · obtain rfl:=List.mem_singleton.1 hx;exact his
        · rw [lst_set (by omega)]
          rcases List.mem_append.1 hx with hx|hx
          · right
            refine Classical.byContradiction fun hn=>?_
            have:=hcalm x hx hn
            rw [hcx] at this;cases this
          · exact .inl (List.mem_singleton.1 hx)
        · rcases List.append_eq_append_iff.1 e with ⟨z,e1,e2⟩|⟨z,e1,e2⟩
          · have hz:z=[]∧j=i:=by
             cases z with
             | nil=>simp only [List.nil_append,List.cons.injEq] at e2;exact ⟨rfl,e2.1.symm⟩
             | cons y z=>simp at e2
            obtain ⟨rfl,rfl⟩:=hz
            rw [List.append_nil] at e1
            subst e1
            exact ⟨hedge,hap⟩
          · cases z with
            | nil =>
              simp only [List.nil_append,List.cons.injEq] at e2
              obtain ⟨rfl,_⟩:=e2
              rw [List.append_nil] at e1
              rw [← e1]
              exact ⟨hedge,hap⟩
            | cons y z =>
              simp only [List.cons_append,List.cons.injEq] at e2
              obtain ⟨rfl,e2⟩:=e2
              exact hB2 pre _ z e1
        · rw [hset2,List.map_append]
          refine (amix_append _ _ σ').2 ?_
          have e:(fun σ'=>amixN P G Γ ops mc (.mk cs' ch') σ' K)=fun σ'=>amix P G Γ ops.toList mc (cs'.map fun i=>(true,ops.getD i default)) σ' fun σ'=>amixC P G Γ ops mc ch' σ' K:=by
           funext s;rw [amixN]
          rw [e] at hh
          exact hh
       refine test _ _ hfront (fun ⟨K0,hh,hK0⟩=>?_) (fun hh=>next ⟨putT σ.tmp ops[i].dst (.tup []),σ.mem,σ.nx⟩ c.w undef hsub hh.2 hskI)
       refine op_sound hΓ hh (rep_evT hrep) hst.inv hst.free (fun r c' m k v q1 q2 q3=>?_)
       obtain ⟨g1,g2⟩:=rep_put hrep q2.le hsz (hN i _ hio) q3
       obtain ⟨hs',hn'⟩:=hK0 r m k q1
       exact next ⟨putT σ.tmp ops[i].dst r,m,k⟩ c'.w v hs' hn' ⟨c',rfl,hst.trans q2,g1,g2,by cases ops[i].dst<;>exact hdf⟩
/-- A region whose order is drawn, as it is read along a tree of orders. -/
def amixt (P:Program) (G:PCtr) (Γ:Ctr) (ops:Array Oper) (mc:Mem) (cal:Nat→Bool) (T:MN) (σ:AS) (K:AS→Prop):Prop :=
 treeB ops cal [] T=true∧SubM mc σ.mem∧amixN P G Γ ops mc T σ K
theorem amixt_sound {Γ:Ctr} (hΓ: ∀ f C,Γ f=some C→ACok P f C) (hG: ∀ f R,G f=some R→PureOk P f R) {c0:Cx} {mem0:Mem} {n0 N:Nat} {ops:Array Oper} {id:Nat} {mc:Mem} {cal:Nat→Bool} {T:MN} (hN: ∀ (i:Nat) (o:Oper),ops[i]?=some o→ ∀ d,o.dst=some d→d<N)
 {Q:Exit→Act→World→Prop} {K:AS→Prop} (hK: ∀ σ a w,K σ→Inv c0 mem0 n0 N σ a w→Q .normal a w) (hm:P.follows .mixedOrders=true) {σ:AS} {a:Act} {w:World} (h:amixt P G Γ ops mc cal T σ K) (hI:Inv c0 mem0 n0 N σ a w) :
 (Code.region id ops true).wp P Q a w:=by
 obtain ⟨hB,hs,h⟩:=h
 obtain ⟨cs,ch⟩:=T
 refine wp_region_any hm ?_
 have hL: ∀ i,(Array.replicate ops.size false).getD i false=false:=by
  intro i
  rw [Array.getD_eq_getD_getElem?,Array.getElem?_replicate]
  split<;>rfl
 have hnl: ∀ i,¬ Lst (Array.replicate ops.size false) i:=fun i=>by unfold Lst;rw [hL];decide
 have hlen:ops.size=(Un ops (Array.replicate ops.size false)).length:=by
  unfold Un
  rw [List.filter_eq_self.2 (fun x _=>by rw [hL];rfl)]
  simp
 obtain ⟨c,rfl,hst,hrep,hsz,hdf⟩:=hI
 have hdrew:Inv c0 mem0 n0 N σ a c.w.drew:=by
  let c':Cx:=⟨c.w.drew,c.fz,c.ρ⟩
  have st:Step c σ.mem σ.nx c' σ.mem σ.nx:=Step.later hst.inv hst.free rfl (fun _ h=>h) (Below.refl _ _).drew (fun b hb=> .inl hb)
  exact ⟨c',rfl,hst.trans st,fun j=>Rep.mono _ st.le (hrep j),hsz,hdf⟩
 have hB1:=hB
 simp only [treeB,Bool.and_eq_true] at hB1
 refine tree_stage hΓ hG hN hK (mc:=mc) ops.size _ [] cs ch σ a c.w.drew hlen (by simp) (fun i j _ hj=>absurd hj (hnl j)) hs hB (csB_nodup cs [] hB1.1.1.1 (by simp)) (by simp) (fun x hx=>absurd hx (hnl x)) (by simp) (fun pre j post e=>by simp at e) ?_ hdrew
 rw [List.nil_append,List.filter_eq_self.2 (fun x _=>by rw [hL];rfl)]
 rw [amixN] at h
 exact h
end
end Go.Proofs.YtnbjogilidfkdaaGreat

/- Code: the abstract reading of code, and that the model does what it says; functions that only compute. -/
namespace Go.Proofs.YtnbjogilidfkdaaGreat
set_option maxRecDepth 100000
set_option linter.unusedVariables false
set_option linter.unusedSimpArgs false
open Go.RowKit
inductive AX where
 | normal
 | exit (id:Nat)
 | ret
def AX.then (next:AS→Prop) (Q:AX→AS→Prop):AX→AS→Prop
 | .normal,σ=>next σ
 | e,σ=>Q e σ
def AX.inBlock (id:Nat) (Q:AX→AS→Prop):AX→AS→Prop
 | .exit id',σ=>(id'=id→Q .normal σ)∧(id'≠id→Q (.exit id') σ)
 | e,σ=>Q e σ
def aCond (t:PV) (p q:Prop):Prop:=match t with
 | .bool b=>(b=true→p)∧(b=false→q)
 | _=>False
def mkT:List (Nat×PV)→Nat→PV
 | []=>fun _=> .undef
 | (j,u)::r=>upd (mkT r) j u
def mkM:List (Nat×MB)→Mem
 | []=>fun _=>none
 | (i,b)::r=>upd (mkM r) i (some b)
def fitsT (tmp:Nat→PV) (nx:Nat):List (Nat×PV)→Prop
 | []=>True
 | (j,u)::r=>tmp j=u∧u.nmb nx=true∧fitsT tmp nx r
def fitsM (mem:Mem) (nx:Nat):List (Nat×MB)→Prop
 | []=>True
 | (i,b)::r=>mem i=some b∧i<nx∧b.nmb nx=true∧fitsM mem nx r
mutual
def PV.ren (π:Nat→Nat):PV→PV
 | .ref id off=> .ref (π id) off
 | .rref id i s off=> .rref (π id) i s off
 | .own id=> .own (π id)
 | .agg cs=> .agg (renL π cs)
 | .tup cs=> .tup (renL π cs)
 | .clo f cs=> .clo f (renL π cs)
 | u=>u
def renL (π:Nat→Nat):List PV→List PV
 | []=>[]
 | u::us=>u.ren π::renL π us
end
def MB.ren (π:Nat→Nat):MB→MB
 | .box cs=> .box (renL π cs)
 | mb=>mb
mutual
theorem PV.ren_id: ∀ u:PV,u.ren id=u
 | .undef| .int .. | .bool _| .str _| .nil| .seq _| .eref _| .raw _=>by unfold PV.ren;rfl
 | .ref .. | .rref .. | .own _=>by unfold PV.ren;rfl
 | .agg cs=>by unfold PV.ren;rw [renL_id cs]
 | .tup cs=>by unfold PV.ren;rw [renL_id cs]
 | .clo f cs=>by unfold PV.ren;rw [renL_id cs]
theorem renL_id: ∀ us:List PV,renL id us=us
 | []=>by unfold renL;rfl
 | u::us=>by unfold renL;rw [PV.ren_id u,renL_id us]
end
theorem MB.ren_id (mb:MB):mb.ren id=mb:=by cases mb<;>simp [MB.ren,renL_id]
/-- The names of a context, called otherwise. -/
def Cx.nam (c:Cx) (n:Nat) (π:Nat→Nat):Cx:=⟨c.w,c.fz,fun i=>if i<n then c.ρ (π i) else none⟩
mutual
theorem Rep.nam:(u:PV)→ ∀ {c:Cx} {n:Nat} {π:Nat→Nat} {v:Value},u.nmb n=true→Rep (u.ren π) c v→Rep u (c.nam n π) v
 | .undef,_,_,_,_,_,_=>by unfold Rep;trivial
 | .int k n,_,_,_,_,_,h=>by unfold PV.ren at h;unfold Rep at *;exact h
 | .bool b,_,_,_,_,_,h=>by unfold PV.ren at h;unfold Rep at *;exact h
 | .str l,_,_,_,_,_,h=>by unfold PV.ren at h;unfold Rep at *;exact h
 | .nil,_,_,_,_,_,h=>by unfold PV.ren at h;unfold Rep at *;exact h
 | .seq es,c,n,π,v,hs,h=>by unfold PV.ren at h;unfold Rep at *;exact h
 | .ref id off,c,n,π,v,hs,h=>by
   unfold PV.ren at h
   unfold Rep at *
   obtain ⟨u,b,h1,h2⟩:=h
   refine ⟨u,b,?_,h2⟩
   simp only [PV.nmb,decide_eq_true_eq] at hs
   simp only [Cx.nam,hs,if_true];exact h1
 | .rref id i s off,c,n,π,v,hs,h=>by
   unfold PV.ren at h
   unfold Rep at *
   obtain ⟨u,b,h1,h2⟩:=h
   refine ⟨u,b,?_,h2⟩
   simp only [PV.nmb,decide_eq_true_eq] at hs
   simp only [Cx.nam,hs,if_true];exact h1
 | .eref cs,c,n,π,v,hs,h=>by unfold PV.ren at h;unfold Rep at *;exact h
 | .own id,c,n,π,v,hs,h=>by
   unfold PV.ren at h
   unfold Rep at *
   simp only [PV.nmb,decide_eq_true_eq] at hs
   simp only [Cx.nam,hs,if_true];exact h
 | .agg cs,c,n,π,v,hs,h=>by
   unfold PV.ren at h
   unfold Rep at *
   obtain ⟨vs,e,h⟩:=h
   exact ⟨vs,e,RepL.nam cs (by simpa [PV.nmb] using hs) h⟩
 | .tup cs,c,n,π,v,hs,h=>by
   unfold PV.ren at h
   unfold Rep at *
   obtain ⟨vs,e,h⟩:=h
   exact ⟨vs,e,RepL.nam cs (by simpa [PV.nmb] using hs) h⟩
 | .clo f cs,c,n,π,v,hs,h=>by
   unfold PV.ren at h
   unfold Rep at *
   obtain ⟨vs,e,h⟩:=h
   exact ⟨vs,e,RepL.nam cs (by simpa [PV.nmb] using hs) h⟩
 | .raw u,_,_,_,_,_,h=>by unfold PV.ren at h;unfold Rep at *;exact h
theorem RepL.nam:(us:List PV)→ ∀ {c:Cx} {n:Nat} {π:Nat→Nat} {vs:List Value},nmbL n us=true→RepL (renL π us) c vs→RepL us (c.nam n π) vs
 | [],_,_,_,_,_,h=>by unfold renL at h;unfold RepL at *;exact h
 | u::us,c,n,π,vs,hs,h=>by
   unfold renL at h
   unfold RepL at *
   obtain ⟨x,xs,e,h1,h2⟩:=h
   simp only [nmbL,Bool.and_eq_true] at hs
   exact ⟨x,xs,e,Rep.nam u hs.1 h1,RepL.nam us hs.2 h2⟩
end
theorem MRep.nam {c:Cx} {i n:Nat} {π:Nat→Nat} {S:Nat→Prop} (hi:i<n): ∀ {mb:MB},mb.nmb n=true→MRep c (π i) S (mb.ren π)→MRep (c.nam n π) i S mb
 | .box cs,hs,h=>by
   obtain ⟨b,t,vs,h1,h2,h3,rfl⟩:=h
   exact ⟨b,t,vs,by simp only [Cx.nam,hi,if_true];exact h1,h2,RepL.nam cs (by simpa [MB.nmb] using hs) h3,rfl⟩
 | .row e s es,hs,h=>by
   obtain ⟨v,vs,h1,h2,h3,h4,rfl⟩:=h
   exact ⟨v,vs,by simp only [Cx.nam,hi,if_true];exact h1,h2,h3,h4,rfl⟩
 | .fro es,hs,h=>by
   obtain ⟨v,h1,h2,rfl⟩:=h
   exact ⟨v,by simp only [Cx.nam,hi,if_true];exact h1,Rep.nam (.seq es) rfl (by unfold PV.ren;exact h2),rfl⟩
 | .gen p d,hs,h=>by
   obtain ⟨v,h1,h2⟩:=h
   exact ⟨v,by simp only [Cx.nam,hi,if_true];exact h1,h2⟩
/-- The state is at least what the lists say, but for the names. -/
def fitsTR (π:Nat→Nat) (tmp:Nat→PV) (nx:Nat):List (Nat×PV)→Prop
 | []=>True
 | (j,u)::r=>tmp j=u.ren π∧u.nmb nx=true∧fitsTR π tmp nx r
def fitsMR (π:Nat→Nat) (mem:Mem) (nx:Nat):List (Nat×MB)→Prop
 | []=>True
 | (i,b)::r=>mem (π i)=some (b.ren π)∧i<nx∧b.nmb nx=true∧fitsMR π mem nx r
def Fits (n0:Nat) (σ:AS) (T:List (Nat×PV)) (M:List (Nat×MB)) (nx:Nat):Prop :=
 ∃ π:Nat→Nat,(∀ i,i<n0→π i=i)∧(∀ i j,i<nx→j<nx→π i=π j→i=j)∧fitsTR π σ.tmp nx T∧fitsMR π σ.mem nx M
/-- The state is at least what the lists say. -/
def fits (σ:AS) (T:List (Nat×PV)) (M:List (Nat×MB)) (nx:Nat):Prop:=fitsT σ.tmp nx T∧fitsM σ.mem nx M
theorem fitsTR_id {tmp:Nat→PV} {nx:Nat}: ∀ {T:List (Nat×PV)},fitsT tmp nx T→fitsTR id tmp nx T
 | [],_=>trivial
 | (j,u)::r,h=>⟨by rw [PV.ren_id];exact h.1,h.2.1,fitsTR_id h.2.2⟩
theorem fitsMR_id {mem:Mem} {nx:Nat}: ∀ {M:List (Nat×MB)},fitsM mem nx M→fitsMR id mem nx M
 | [],_=>trivial
 | (j,u)::r,h=>⟨by rw [MB.ren_id];exact h.1,h.2.1,h.2.2.1,fitsMR_id h.2.2.2⟩
theorem fits.out {n0:Nat} {σ:AS} {T:List (Nat×PV)} {M:List (Nat×MB)} {nx:Nat} (h:fits σ T M nx):Fits n0 σ T M nx :=
 ⟨id,fun _ _=>rfl,fun _ _ _ _ h=>h,fitsTR_id h.1,fitsMR_id h.2⟩
def mkS (T:List (Nat×PV)) (M:List (Nat×MB)) (nx:Nat):AS:=⟨mkT T,mkM M,nx⟩
/-- What is known of these slots alone. -/
def cutT (L:Option (List Nat)) (tmp:Nat→PV):Nat→PV:=match L with
 | none=>tmp
 | some l=>mkT (l.map fun j=>(j,tmp j))
theorem mkT_map (tmp:Nat→PV): ∀ (l:List Nat) (j:Nat),mkT (l.map fun j=>(j,tmp j)) j= .undef∨mkT (l.map fun j=>(j,tmp j)) j=tmp j
 | [],_=> .inl rfl
 | i::l,j=>by
   simp only [List.map_cons,mkT,upd]
   split
   · rename_i e;subst e;exact .inr rfl
   · exact mkT_map tmp l j
def cutK (L:Option (List Nat)) (K:AS→Prop) (σ:AS):Prop:=K ⟨cutT L σ.tmp,σ.mem,σ.nx⟩
def awp (P:Program) (G:PCtr) (Γ:Ctr) (n0:Nat):Code→(AX→AS→Prop)→AS→Prop
 | .skip,Q,σ=>Q .normal σ
 | .region _ ops d,Q,σ=>if d=true then (∃ k,adraw P G Γ ops k σ (Q .normal))∨(∃ mc cal ord,amixr P G Γ ops mc cal ord σ (Q .normal))∨(∃ mc cal T,amixt P G Γ ops mc cal T σ (Q .normal)) else ∃ L,arun P Γ ops.toList ops.toList σ (cutK L (Q .normal))
 | .seq a b,Q,σ=>awp P G Γ n0 a (AX.then (awp P G Γ n0 b Q) Q) σ
 | .cond c a b,Q,σ=>aCond (evT σ.tmp c) (awp P G Γ n0 a Q σ) (awp P G Γ n0 b Q σ)
 | .block id c,Q,σ=>awp P G Γ n0 c (AX.inBlock id Q) σ
 | .loop c,Q,σ=> ∃ (ι:Type) (T:ι→List (Nat×PV)) (M:ι→List (Nat×MB)) (nx:Nat) (good:ι→Prop) (μ:ι→Nat),n0≤nx∧(∃ i,good i∧Fits n0 σ (T i) (M i) nx) ∧
    ∀ i,good i→awp P G Γ n0 c (AX.then (fun σ'=> ∃ i',good i'∧μ i'<μ i∧Fits n0 σ' (T i') (M i') nx) Q) (mkS (T i) (M i) nx)
 | .exit id,Q,σ=>Q (.exit id) σ
 | .ret,Q,σ=>Q .ret σ
 | .scope c,Q,σ=>awp P G Γ n0 c Q σ
 | .label _,Q,σ=>Q .normal σ
 | _,_,_=>False
def codeN (N:Nat):Code→Bool
 | .region _ ops _=>ops.all fun o=>match o.dst with
   | some d=>decide (d<N)
   | none=>true
 | .seq a b=>codeN N a && codeN N b
 | .cond _ a b=>codeN N a && codeN N b
 | .block _ c=>codeN N c
 | .loop c=>codeN N c
 | .scope c=>codeN N c
 | _=>true
section
variable {P:Program} {G:PCtr} {Γ:Ctr}
theorem InvM.nam {c:Cx} {mem mem':Mem} {n:Nat} {π:Nat→Nat} (h:InvM c mem) (hinj: ∀ i j,i<n→j<n→π i=π j→i=j) (hm: ∀ i mb,mem' i=some mb→mem (π i)=some (mb.ren π)∧i<n∧mb.nmb n=true):InvM (c.nam n π) mem':=by
 obtain ⟨hf,S,h1,h2,h3⟩:=h
 have hne: ∀ i,mem' i≠none→mem (π i)≠none∧i<n:=by
  intro i hi
  obtain ⟨mb,hmb⟩:=Option.ne_none_iff_exists'.1 hi
  obtain ⟨e,hlt,_⟩:=hm i mb hmb
  exact ⟨by rw [e];simp,hlt⟩
 exact ⟨⟨hf.lt,hf.glob⟩,fun i=>S (π i),fun i mb hi=>MRep.nam (hm i mb hi).2.1 (hm i mb hi).2.2 (h1 _ _ (hm i mb hi).1),
  fun i j b hi hj hij=>h2 _ _ b (hne i hi).1 (hne j hj).1 (fun e=>hij (hinj i j (hne i hi).2 (hne j hj).2 e)),fun i b hi=>h3 _ b (hne i hi).1⟩
theorem Step.nam {c0 c:Cx} {mem0 mem mem':Mem} {n0 m n:Nat} {π:Nat→Nat} (h:Step c0 mem0 n0 c mem m) (hn:Names c0 n0) (hle:n0≤n) (hid: ∀ i,i<n0→π i=i) (hinj: ∀ i j,i<n→j<n→π i=π j→i=j)
 (hm: ∀ i mb,mem' i=some mb→mem (π i)=some (mb.ren π)∧i<n∧mb.nmb n=true) :
 Step c0 mem0 n0 (c.nam n π) mem' n where
 inv:=h.inv.nam hinj hm
 le:=⟨h.le.fz,h.le.cell,fun i v hi=>by
  have hlt:i<n0:=Nat.lt_of_not_le fun hh=>by rw [hn.1 i hh] at hi;cases hi
  simp only [Cx.nam,if_pos (Nat.lt_of_lt_of_le hlt hle),hid i hlt]
  exact h.le.ρ i v hi⟩
 os:=h.os
 tape:=h.tape
 output:=h.output
 size:=h.size
 block:=h.block
 mine:=fun b ⟨i,S,mb,hi,hr,hs⟩=>by
  obtain ⟨_,S0,h1,_,_⟩:=h.inv
  have hr0:=h1 _ _ (hm i mb hi).1
  have e:=MRep.det hr (MRep.nam (hm i mb hi).2.1 (hm i mb hi).2.2 hr0)
  subst e
  exact h.mine b ⟨_,_,_,(hm i mb hi).1,hr0,hs⟩
 fzNew:=h.fzNew
 nx:=hle
 ρ := fun i hi=>by
   simp only [Cx.nam,if_pos (Nat.lt_of_lt_of_le hi hle),hid i hi]
   exact h.ρ i hi
 free:=⟨fun i hi=>by simp only [Cx.nam];rw [if_neg (by omega)],fun i v hi=>by
  simp only [Cx.nam] at hi
  split at hi
  · exact h.free.2 _ v hi
  · cases hi⟩
theorem fitsTR_get {π:Nat→Nat} {tmp:Nat→PV} {nx:Nat}: ∀ {T:List (Nat×PV)},fitsTR π tmp nx T→ ∀ j,mkT T j= .undef∨(mkT T j).ren π=tmp j∧(mkT T j).nmb nx=true
 | [],_,j=> .inl rfl
 | (k,u)::r,h,j=>by
  obtain ⟨h1,h2,h3⟩:=h
  simp only [mkT,upd]
  split
  · rename_i e;subst e;exact .inr ⟨h1.symm,h2⟩
  · exact fitsTR_get h3 j
theorem fitsMR_get {π:Nat→Nat} {mem:Mem} {nx:Nat}: ∀ {M:List (Nat×MB)},fitsMR π mem nx M→ ∀ i mb,mkM M i=some mb→mem (π i)=some (mb.ren π)∧i<nx∧mb.nmb nx=true
 | [],_,i,mb,h=>by cases h
 | (k,b)::r,h,i,mb,hi=>by
  obtain ⟨h1,h2,h3,h4⟩:=h
  simp only [mkM,upd] at hi
  split at hi
  · rename_i e;subst e;cases hi;exact ⟨h1,h2,h3⟩
  · exact fitsMR_get h4 i mb hi
theorem Inv.fits {c0:Cx} {mem0:Mem} {n0 N:Nat} (hn:Names c0 n0) {σ:AS} {a:Act} {w:World} (h:Inv c0 mem0 n0 N σ a w) {T:List (Nat×PV)} {M:List (Nat×MB)} {nx:Nat} (hle:n0≤nx) (hf:Fits n0 σ T M nx) :
 Inv c0 mem0 n0 N (mkS T M nx) a w:=by
 obtain ⟨π,hid,hinj,hT,hM⟩:=hf
 obtain ⟨c,rfl,hst,hrep,hsz,hdf⟩:=h
 refine ⟨c.nam nx π,rfl,hst.nam hn hle hid hinj (fitsMR_get hM),fun j=>?_,hsz,hdf⟩
 rcases fitsTR_get hT j with e|⟨e,hs⟩
 · show Rep (mkT T j) _ _
   rw [e];unfold Rep;trivial
 · show Rep (mkT T j) _ _
   refine Rep.nam _ hs ?_
   rw [e];exact hrep j
/-- A loop by a relation and a measure of its own. -/
theorem wp_loop_by {c:Code} {Q:Exit→Act→World→Prop} {a:Act} {w:World} {ι:Type} (J:ι→Act→World→Prop) (μ:ι→Nat) (i0:ι) (h0:J i0 a w)
 (round: ∀ i a w,J i a w→c.wp P (Exit.then (fun a' w'=> ∃ i',J i' a' w'∧μ i'<μ i) Q) a w):(Code.loop c).wp P Q a w:=by
 have hmin: ∀ a w,(∃ i,J i a w)→ ∃ m,(∃ i,J i a w∧μ i=m)∧ ∀ i,J i a w→m≤μ i:=by
  intro a w ⟨i,hi⟩
  have: ∀ m i,μ i=m→J i a w→ ∃ m,(∃ i,J i a w∧μ i=m)∧ ∀ i,J i a w→m≤μ i:=by
   intro m
   induction m using Nat.strongRecOn with
   | _ m ih =>
     intro i hm hi
     by_cases h: ∀ k,J k a w→m≤μ k
     · exact ⟨m,⟨i,hi,hm⟩,h⟩
     · obtain ⟨k,hk⟩:=Classical.not_forall.1 h
       obtain ⟨h1,h2⟩:=Classical.not_imp.1 hk
       exact ih (μ k) (by omega) k rfl h1
  exact this _ i rfl hi
 have hfun: ∃ f:Act→World→Nat,∀ a w,(∃ i,J i a w)→(∃ i,J i a w∧μ i=f a w)∧ ∀ i,J i a w→f a w≤μ i:=by
  refine ⟨fun a w=>Classical.epsilon fun m=>(∃ i,J i a w∧μ i=m)∧ ∀ i,J i a w→m≤μ i,fun a w h=>?_⟩
  exact Classical.epsilon_spec (hmin a w h)
 obtain ⟨f,hf⟩:=hfun
 refine wp_loop (fun a w=> ∃ i,J i a w) f ⟨i0,h0⟩ (fun a w hJ=>?_)
 obtain ⟨⟨i,hi,he⟩,_⟩:=hf a w hJ
 refine wp_mono (round i a w hi) (fun e a' w' hq=>?_)
 cases e with
 | normal =>
   obtain ⟨i',h1,h2⟩:=hq
   exact ⟨⟨i',h1⟩,by have:=(hf a' w' ⟨i',h1⟩).2 i' h1;omega⟩
 | _=>exact hq
def QOf (c0:Cx) (mem0:Mem) (n0 N:Nat) (Q:AX→AS→Prop):Exit→Act→World→Prop
 | .normal,a,w=> ∃ σ,Q .normal σ∧Inv c0 mem0 n0 N σ a w
 | .exit id,a,w=> ∃ σ,Q (.exit id) σ∧Inv c0 mem0 n0 N σ a w
 | .ret,a,w=> ∃ σ,Q .ret σ∧Inv c0 mem0 n0 N σ a w
 | _,_,_=>False
theorem awp_sound (hΓ: ∀ f C,Γ f=some C→ACok P f C) (hG: ∀ f R,G f=some R→PureOk P f R) (hm:P.follows .mixedOrders=true) {c0:Cx} {mem0:Mem} {n0 N:Nat} (hn:Names c0 n0) :
 ∀ (c:Code) (Q:AX→AS→Prop) (σ:AS) (a:Act) (w:World),codeN N c=true→awp P G Γ n0 c Q σ→Inv c0 mem0 n0 N σ a w→c.wp P (QOf c0 mem0 n0 N Q) a w:=by
 intro c
 induction c with
 | skip=>exact fun Q σ a w _ h hI=>wp_skip ⟨σ,h,hI⟩
 | label l=>exact fun Q σ a w _ h hI=>wp_label ⟨σ,h,hI⟩
 | ret=>exact fun Q σ a w _ h hI=>wp_ret ⟨σ,h,hI⟩
 | exit id=>exact fun Q σ a w _ h hI=>wp_exit ⟨σ,h,hI⟩
 | region id ops d =>
   intro Q σ a w hc h hI
   have hN: ∀ (i:Nat) (o:Oper),ops[i]?=some o→ ∀ d,o.dst=some d→d<N:=by
    intro i o ho d hd
    simp only [codeN,Array.all_eq_true] at hc
    obtain ⟨hi,rfl⟩:=Array.getElem?_eq_some_iff.1 ho
    have:=hc i hi
    rw [hd] at this
    simpa using this
   have hK: ∀ σ a w,Q .normal σ→Inv c0 mem0 n0 N σ a w→QOf c0 mem0 n0 N Q .normal a w:=fun σ a w h hI=>⟨σ,h,hI⟩
   cases d with
   | true =>
     simp only [awp,if_true] at h
     rcases h with ⟨k,h⟩|⟨mc,cal,ord,h⟩|⟨mc,cal,T,h⟩
     · exact adraw_sound hΓ hG hN hK hm h hI
     · exact amixr_sound hΓ hG hN hK hm h hI
     · exact amixt_sound hΓ hG hN hK hm h hI
   | false =>
     simp only [awp,Bool.false_eq_true,if_false] at h
     obtain ⟨L,h⟩:=h
     refine wp_region ?_
     have hK': ∀ σ a w,cutK L (Q .normal) σ→Inv c0 mem0 n0 N σ a w→QOf c0 mem0 n0 N Q .normal a w:=by
      intro σ a w h ⟨c,hw,hst,hrep,hsz,hdf⟩
      refine ⟨_,h,c,hw,hst,fun j=>?_,hsz,hdf⟩
      cases L with
      | none=>exact hrep j
      | some l =>
        show Rep (mkT (l.map fun j=>(j,σ.tmp j)) j) c _
        rcases mkT_map σ.tmp l j with e|e
        · rw [e];unfold Rep;trivial
        · rw [e];exact hrep j
     have:=arun_sound hΓ hN hK' ops.toList 0 σ a w (by simp) h hI
     rw [List.range_eq_range']
     simpa using this
 | seq x y ihx ihy =>
   intro Q σ a w hc h hI
   simp only [codeN,Bool.and_eq_true] at hc
   simp only [awp] at h
   refine wp_seq (wp_mono (ihx _ σ a w hc.1 h hI) (fun e a' w' hq=>?_))
   cases e with
   | normal=>obtain ⟨σ',h1,h2⟩:=hq;exact ihy Q σ' a' w' hc.2 h1 h2
   | exit id=>obtain ⟨σ',h1,h2⟩:=hq;exact ⟨σ',h1,h2⟩
   | ret=>obtain ⟨σ',h1,h2⟩:=hq;exact ⟨σ',h1,h2⟩
   | _=>exact hq.elim
 | cond t x y ihx ihy =>
   intro Q σ a w hc h hI
   simp only [codeN,Bool.and_eq_true] at hc
   simp only [awp] at h
   obtain ⟨c,rfl,hst,hrep,hsz,hdf⟩:=hI
   have ht:=rep_evT hrep t
   unfold aCond at h
   cases hb:evT σ.tmp t with
   | bool b =>
     rw [hb] at h ht
     unfold Rep at ht
     cases b with
     | true=>exact wp_cond ht (ihx Q σ a _ hc.1 (h.1 rfl) ⟨c,rfl,hst,hrep,hsz,hdf⟩)
     | false=>exact wp_cond ht (ihy Q σ a _ hc.2 (h.2 rfl) ⟨c,rfl,hst,hrep,hsz,hdf⟩)
   | _=>rw [hb] at h;exact h.elim
 | block id c ih =>
   intro Q σ a w hc h hI
   simp only [awp] at h
   refine wp_block (wp_mono (ih _ σ a w (by simpa [codeN] using hc) h hI) (fun e a' w' hq=>?_))
   cases e with
   | normal=>obtain ⟨σ',h1,h2⟩:=hq;exact ⟨σ',h1,h2⟩
   | exit id' =>
     obtain ⟨σ',h1,h2⟩:=hq
     simp only [Exit.inBlock]
     split
     · rename_i e;exact ⟨σ',h1.1 e,h2⟩
     · rename_i e;exact ⟨σ',h1.2 e,h2⟩
   | ret=>obtain ⟨σ',h1,h2⟩:=hq;exact ⟨σ',h1,h2⟩
   | _=>exact hq.elim
 | loop c ih =>
   intro Q σ a w hc h hI
   simp only [awp] at h
   obtain ⟨ι,T,M,nx,good,μ,hle,⟨i0,hi0,hf0⟩,hround⟩:=h
   refine wp_loop_by (fun i a w=>good i∧Inv c0 mem0 n0 N (mkS (T i) (M i) nx) a w) μ i0 ⟨hi0,hI.fits hn hle hf0⟩ ?_
   rintro i a w ⟨hi,hI⟩
   refine wp_mono (ih _ _ a w (by simpa [codeN] using hc) (hround i hi) hI) (fun e a' w' hq=>?_)
   cases e with
   | normal =>
     obtain ⟨σ',⟨i',h1,h2,h3⟩,h4⟩:=hq
     exact ⟨i',⟨h1,h4.fits hn hle h3⟩,h2⟩
   | exit id=>obtain ⟨σ',h1,h2⟩:=hq;exact ⟨σ',h1,h2⟩
   | ret=>obtain ⟨σ',h1,h2⟩:=hq;exact ⟨σ',h1,h2⟩
   | _=>exact hq.elim
 | scope c ih =>
   intro Q σ a w hc h hI
   simp only [awp] at h
   refine wp_scope_straight (wp_mono (ih Q σ a w (by simpa [codeN] using hc) h hI) (fun e a' w' hq=>?_))
   cases e with
   | goto l=>exact hq.elim
   | normal=>exact hq
   | exit id=>exact hq
   | ret=>exact hq
   | panic _=>exact hq.elim
   | outgrown=>exact hq.elim
 | _=>intro Q σ a w _ h _;exact h.elim
def entry (args:List PV) (mem:Mem) (n:Nat):AS:=⟨fun j=>args.getD j .undef,mem,n⟩
def aRes (P:Program) (σ:AS):List ResultVar→(List PV→Prop)→Prop
 | [],K=>K []
 | .tmp t::rs,K=>aRes P σ rs fun us=>K (σ.tmp t::us)
 | .cell a t::rs,K=>aLoad P t σ.mem (σ.tmp a) fun u=>aRes P σ rs fun us=>K (u::us)
def packR:List PV→PV
 | [u]=>u
 | us=> .tup us
def Fin (P:Program) (rs:List ResultVar) (K:PV→Mem→Nat→Prop):AX→AS→Prop
 | .exit _,_=>False
 | _,σ=>aRes P σ rs fun us=>K (packR us) σ.mem σ.nx
def resF (tmps:Array Value):ResultVar→Sem Value
 | .tmp t=>pure (tmps.getD t undef)
 | .cell x t=>do loadVar t (← asAddr (tmps.getD x undef))
theorem results_eq (fn:Func) (tmps:Array Value):results fn tmps=(do let vs ← fn.results.mapM (resF tmps);pure (if h:vs.size=1 then vs[0] else .tuple vs)):=rfl
theorem aRes_sound {c:Cx} {σ:AS} {a:Act} (hI:InvM c σ.mem) (hrep: ∀ j,Rep (σ.tmp j) c (a.tmps.getD j undef)): ∀ (rs:List ResultVar) (K:List PV→Prop),aRes P σ rs K →
 ∃ vs us,(rs.mapM (resF a.tmps)).run P c.w= .ok vs c.w∧RepL us c vs∧K us∧us.length=rs.length
 | [],K,h=>⟨[],[],by simp,by simp [RepL.nil_iff],h,rfl⟩
 | .tmp t::rs,K,h=>by
   obtain ⟨vs,us,h1,h2,h3,h4⟩:=aRes_sound hI hrep rs _ h
   refine ⟨_::vs,_::us,?_,RepL.cons_iff.2 ⟨_,vs,rfl,hrep t,h2⟩,h3,by simp [h4]⟩
   simp only [List.mapM_cons,resF,Sem.run_bind,Sem.run_pure,Result.andThen_ok,h1]
 | .cell x t::rs,K,h=>by
   obtain ⟨v,r,g1,g2,g3⟩:=load_sound h (hrep x) hI
   obtain ⟨vs,us,h1,h2,h3,h4⟩:=aRes_sound hI hrep rs _ g3
   refine ⟨v::vs,r::us,?_,RepL.cons_iff.2 ⟨v,vs,rfl,g2,h2⟩,h3,by simp [h4]⟩
   have hp: ∃ ad,a.tmps.getD x undef= .pointer (some ad)∧(loadVar t ad).run P c.w= .ok v c.w:=by
    cases hv:a.tmps.getD x undef with
    | pointer ad =>
      cases ad with
      | none=>rw [hv] at g1;simp [Instr.loadAt,Instr.sureAddr] at g1
      | some ad=>rw [hv] at g1;exact ⟨ad,rfl,by simpa [Instr.loadAt,Instr.sureAddr] using g1⟩
    | _=>rw [hv] at g1;simp [Instr.loadAt,Instr.sureAddr] at g1
   obtain ⟨ad,e1,e2⟩:=hp
   simp only [List.mapM_cons,resF,Sem.run_bind,e1,asAddr,Sem.run_pure,Result.andThen_ok,e2,h1]
theorem results_sound {fn:Func} {c:Cx} {σ:AS} {a:Act} (hI:InvM c σ.mem) (hrep: ∀ j,Rep (σ.tmp j) c (a.tmps.getD j undef)) {K:PV→Prop} (h:aRes P σ fn.results.toList fun us=>K (packR us)) :
 ∃ v r,(results fn a.tmps).run P c.w= .ok v c.w∧Rep r c v∧K r:=by
 obtain ⟨vs,us,h1,h2,h3,h4⟩:=aRes_sound hI hrep _ _ h
 have hl:=h2.length
 refine ⟨if h:vs.toArray.size=1 then vs.toArray[0] else .tuple vs.toArray,packR us,?_,?_,h3⟩
 · rw [results_eq,Array.mapM_eq_mapM_toList]
   simp only [Sem.run_bind,Sem.run_map,h1,Result.andThen_ok,Sem.run_pure]
 · match us,vs,hl,h2 with
   | [],[],_,h2=>simp [packR];unfold Rep;exact ⟨#[],rfl,by simpa using h2⟩
   | [u],[v],_,h2 =>
     simp [packR]
     obtain ⟨x,xs,e,h5,_⟩:=RepL.cons_iff.1 h2
     cases e
     exact h5
   | u::u'::us,v::v'::vs,_,h2 =>
     simp [packR]
     unfold Rep
     exact ⟨_,rfl,by simpa using h2⟩
/-- A function by its body. -/
theorem calls_of_body (hΓ: ∀ f C,Γ f=some C→ACok P f C) (hG: ∀ f R,G f=some R→PureOk P f R) (hm:P.follows .mixedOrders=true) {f:FuncId} {fn:Func} {code:Code} (hf:P.funcs[f]?=some fn) (hb:fn.body=some code) (hN:codeN fn.ntmps code=true)
 {c:Cx} {mem:Mem} {n:Nat} (hI:InvM c mem) (hn:Names c n) {args:List PV} {vs:List Value} (hr:RepL args c vs) (hsz:args.length≤fn.ntmps) {K:PV→Mem→Nat→Prop}
 (h:awp P G Γ n code (Fin P fn.results.toList K) (entry args mem n)) :
 Calls P f vs.toArray c.w (fun e w'=> ∃ v r c' mem' n',e= .returned v∧c'.w=w'∧K r mem' n'∧Step c mem n c' mem' n'∧Rep r c' v):=by
 refine calls_of_wp hf hb ?_
 have hl:=hr.length
 have hInv:Inv c mem n fn.ntmps (entry args mem n) { tmps:=vs.toArray++Array.replicate (fn.ntmps - vs.toArray.size) undef,defers:=[] } c.w:=by
  refine ⟨c,rfl,.refl hI hn,fun j=>?_,by simp;omega,rfl⟩
  show Rep (args.getD j .undef) c _
  by_cases hj:j<args.length
  · rw [List.getD_eq_getElem?_getD,List.getElem?_eq_getElem hj,Option.getD_some]
    obtain ⟨v,h1,h2⟩:=hr.get j _ (List.getElem?_eq_getElem hj)
    have hjv:j<vs.length:=by omega
    have:(vs.toArray++Array.replicate (fn.ntmps - vs.toArray.size) undef).getD j undef=v:=by
     rw [Array.getD_eq_getD_getElem?,Array.getElem?_append]
     simp [hjv]
     have:=(List.getElem?_eq_some_iff.1 h1).2
     exact this
    rw [this]
    exact h2
  · rw [List.getD_eq_getElem?_getD,List.getElem?_eq_none (by omega)]
    unfold Rep
    trivial
 refine wp_mono (awp_sound hΓ hG hm hn code _ _ _ _ hN h hInv) (fun e a' w' hq=>?_)
 have fin: ∀ σ,(aRes P σ fn.results.toList fun us=>K (packR us) σ.mem σ.nx)→Inv c mem n fn.ntmps σ a' w'→a'.defers=[]∧ ∃ v,(results fn a'.tmps).run P w'= .ok v w'∧ ∃ v' r c' mem' n',Ending.returned v= .returned v'∧c'.w=w'∧K r mem' n'∧Step c mem n c' mem' n'∧Rep r c' v':=by
  rintro σ h ⟨c',rfl,hst,hrep,_,hdf⟩
  obtain ⟨v,r,h1,h2,h3⟩:=results_sound (K:=fun r=>K r σ.mem σ.nx) hst.inv hrep h
  exact ⟨hdf,v,h1,v,r,c',σ.mem,σ.nx,rfl,rfl,h3,hst,h2⟩
 cases e with
 | normal=>obtain ⟨σ,h1,h2⟩:=hq;exact fin σ h1 h2
 | ret=>obtain ⟨σ,h1,h2⟩:=hq;exact fin σ h1 h2
 | exit id=>obtain ⟨σ,h1,_⟩:=hq;exact h1.elim
 | _=>exact hq.elim
theorem InvM.none_ {c:Cx} (hf:FzOk c):InvM c (fun _=>none):=⟨hf,fun _ _=>False,(fun _ _ h=>by cases h),(fun _ _ _ h=>absurd rfl h),(fun _ _ h=>absurd rfl h)⟩
/-- What a function that only computes comes to: data. -/
def FinP (P:Program) (rs:List ResultVar) (K:PV→Prop):AX→AS→Prop:=Fin P rs fun r mem _=>(res mem r).nmb 0=true∧K (res mem r)
theorem pure_of_body (hΓ: ∀ f C,Γ f=some C→ACok P f C) (hG: ∀ f R,G f=some R→PureOk P f R) (hm:P.follows .mixedOrders=true) {f:FuncId} {fn:Func} {code:Code} (hf:P.funcs[f]?=some fn) (hb:fn.body=some code) (hN:codeN fn.ntmps code=true)
 (hname:(fn.name == "runtime.NumGoroutine")=false) {R:PC} (hfun: ∀ args,Fun (R args)) (hsz: ∀ args K,R args K→args.length≤fn.ntmps)
 (h: ∀ args K,R args K→awp P G Γ 0 code (FinP P fn.results.toList K) (entry args (fun _=>none) 0)):PureOk P f R:=by
 refine ⟨⟨fn,hf,by rw [hb];rfl,hname⟩,hfun,fun c args vs K hfz hr hR=>?_⟩
 have hI:InvM c.data (fun _=>none):=InvM.none_ ⟨hfz.lt,hfz.glob⟩
 have hn:Names c.data 0:=⟨fun _ _=>rfl,fun _ _ h=>by cases h⟩
 refine (calls_of_body hΓ hG hm hf hb hN hI hn hr (hsz args K hR) (h args K hR)).mono ?_
 rintro e w' ⟨v,r,c',mem',n',rfl,rfl,⟨hK1,hK2⟩,hst,hrep⟩
 obtain ⟨c2,e1,e2,st2⟩:=Step.frz (owns r) hst.inv hst.free
 have hrep2:Rep (res mem' r) c2 v:=rep_res st2.inv (frz_fits mem' (owns r)) (Rep.mono _ st2.le hrep)
 have hrep3:=hrep2.to_data hK1
 have hno: ∀ b,¬ Mine c.data (fun _=>none) b:=by rintro b ⟨i,S,mb,h,_⟩;cases h
 have st:=hst.trans st2
 refine ⟨v,res mem' r,rfl,hK2,?_,?_⟩
 · rw [← e1]
   exact ⟨st.os,st.tape,st.output,st.size,fun b hb=>st.block b hb (hno b)⟩
 · refine Rep.mono _ (c:=c2.data) ⟨fun b hb=>?_,fun b _ o=>by rw [← e1];rfl,fun _ _ h=>by cases h⟩ hrep3
   have hlt:=st2.inv.1.lt b hb
   rcases st.fzNew b hb with h|h|h
   · exact .inl h
   · exact absurd h (hno b)
   · exact .inr ⟨h,by rw [← e1];exact hlt⟩
end
end Go.Proofs.YtnbjogilidfkdaaGreat
