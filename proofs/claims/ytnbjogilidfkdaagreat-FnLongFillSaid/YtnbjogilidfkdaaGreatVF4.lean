/- Abstract operations on memory, and that the model's operations do what they say: loads, stores, new variables, addresses. -/
import Derived.Test.YtnbjogilidfkdaaGreatVF3
import Derived.Laws.CopyRow
import Derived.Laws.Rows

namespace Go.Proofs.YtnbjogilidfkdaaGreat
set_option maxRecDepth 100000
set_option linter.unusedVariables false
set_option linter.unusedSimpArgs false
open Go.RowKit
section
variable {P:Program}
theorem run_isAgg_one {t:TypeId} (h:aggOf P t=some none) (w:World):(isAgg t).run P w= .ok false w∧(sizeOf t).run P w= .ok 1 w:=by
 unfold aggOf at h
 cases hu:P.underlying t with
 | none=>rw [hu] at h;cases h
 | some d =>
   rw [hu] at h
   have hs: ∀ (o:Option TypeInfo),o=P.info? t→(o.bind fun i=>if i.size=1 then some (none:Option Nat) else none)=some none→(sizeOf t).run P w= .ok 1 w:=by
    intro o ho hh
    cases o with
    | none=>cases hh
    | some i =>
      simp only [Option.bind_some] at hh
      split at hh
      · rename_i h1;simp [sizeOf,typeInfo,← ho,h1]
      · cases hh
   cases d<;>simp only at h<;>first
    | (refine ⟨by simp [isAgg,run_underlying hu],hs _ rfl h⟩)
    | (cases hi:P.info? t<;>rw [hi] at h<;>simp at h)
theorem run_isAgg_agg {t:TypeId} {n:Nat} (h:aggOf P t=some (some n)) (w:World):(isAgg t).run P w= .ok true w∧(sizeOf t).run P w= .ok n w:=by
 unfold aggOf at h
 cases hu:P.underlying t with
 | none=>rw [hu] at h;cases h
 | some d =>
   rw [hu] at h
   have hs: ∀ (o:Option TypeInfo),o=P.info? t→(o.map fun i=>some i.size)=some (some n)→(sizeOf t).run P w= .ok n w:=by
    intro o ho hh
    cases o with
    | none=>cases hh
    | some i=>simp only [Option.map_some,Option.some.injEq] at hh;simp [sizeOf,typeInfo,← ho,hh]
   cases d<;>simp only at h<;>first
    | (refine ⟨by simp [isAgg,run_underlying hu],hs _ rfl h⟩)
    | (cases hi:P.info? t<;>rw [hi] at h<;>simp at h<;>(try split at h)<;>simp at h)
theorem addr_add (b o n:Nat):Addr.add ⟨b,o,none⟩ n=⟨b,o+n,none⟩:=by unfold Addr.add;split<;>simp_all
/-- The cells from a pointer on. -/
def cellsAt (mem:Mem):PV→Option (List PV)
 | .ref i o=>match mem i with
   | some (.box cs)=>some (cs.drop o)
   | _=>none
 | .rref i k s o=>match mem i with
   | some (.row _ s' es)=>if s=s' then (es[k]?).map (·.drop o) else none
   | _=>none
 | .eref cs=>some cs
 | _=>none
theorem flat_get {α:Type} {s:Nat}: ∀ {es:List (List α)} {k:Nat} {e:List α},(∀ x ∈ es,x.length=s)→es[k]?=some e→(es.flatten.drop (k * s)).take s=e
 | [],k,e,_,hk=>by simp at hk
 | x::es,0,e,h,hk=>by
   obtain rfl:x=e:=by simpa using hk
   have:=h x (by simp)
   simp [List.take_append,this]
 | x::es,k+1,e,h,hk=>by
   have hx:=h x (by simp)
   have:=flat_get (s:=s) (fun y hy=>h y (by simp [hy])) (by simpa using hk:es[k]?=some e)
   rw [List.flatten_cons,List.drop_append]
   rw [List.drop_of_length_le (by rw [hx,Nat.add_mul];omega),hx,Nat.add_mul,Nat.one_mul,Nat.add_sub_cancel,List.nil_append]
   exact this
theorem place_sound {c:Cx} {mem:Mem} {p:PV} {cs:List PV} {pv:Value} (h:cellsAt mem p=some cs) (hr:Rep p c pv) (hI:InvM c mem) :
 ∃ b o vs,pv= .pointer (some ⟨b,o,none⟩)∧RepL cs c vs∧ ∀ j v,vs[j]?=some v→c.w.cell? ⟨b,o+j,none⟩=some v:=by
 obtain ⟨_,S,h1,_,_⟩:=hI
 cases p with
 | ref i o =>
   simp only [cellsAt] at h
   cases hm:mem i with
   | none=>rw [hm] at h;cases h
   | some mb =>
     rw [hm] at h
     cases mb with
     | box ds =>
       simp only [Option.some.injEq] at h
       subst h
       obtain ⟨b,t,vs,e1,e2,e3,_⟩:=h1 i _ hm
       unfold Rep at hr
       obtain ⟨u,b',e4,e5,rfl⟩:=hr
       rw [e1] at e4
       cases e4
       simp only [baseOf,Option.some.injEq] at e5
       subst e5
       refine ⟨b,o,vs.toList.drop o,rfl,e3.drop o,fun j v hj=>?_⟩
       rw [e2.cell]
       rw [List.getElem?_drop] at hj
       simpa using hj
     | _=>cases h
 | rref i k s o =>
   simp only [cellsAt] at h
   cases hm:mem i with
   | none=>rw [hm] at h;cases h
   | some mb =>
     rw [hm] at h
     cases mb with
     | row e s' es =>
       simp only at h
       split at h
       · rename_i hs
         subst hs
         cases hk:es[k]? with
         | none=>rw [hk] at h;cases h
         | some x =>
           rw [hk] at h
           simp only [Option.map_some,Option.some.injEq] at h
           subst h
           obtain ⟨v,vs,e1,e2,e3,e4,_⟩:=h1 i _ hm
           unfold Rep at hr
           obtain ⟨u,b,e5,e6,rfl⟩:=hr
           rw [e1] at e5
           cases e5
           have hown:v.ownBlock=some b:=by
            rcases e2.2 with ⟨rfl,_⟩|⟨g,cap,cur,rfl,_⟩
            · simp [baseOf] at e6
            · simp only [baseOf,Option.some.injEq] at e6;subst e6;rfl
           have hfl:=flat_get e4.1 hk
           refine ⟨b,k * s+o,((vs.drop (k * s)).take s).drop o,rfl,?_,fun j u hj=>?_⟩
           · rw [← hfl]
             exact ((e3.of_data.drop (k * s)).take s).drop o
           · rw [List.getElem?_drop,List.getElem?_take] at hj
             split at hj
             · rw [List.getElem?_drop] at hj
               have:=e2.cells hown (k * s+(o+j)) u hj
               rw [addr_add,Nat.zero_add] at this
               rwa [Nat.add_assoc]
             · cases hj
       · cases h
     | _=>cases h
 | eref ds =>
   simp only [cellsAt,Option.some.injEq] at h
   subst h
   unfold Rep at hr
   obtain ⟨b,o,rfl,hb,ha⟩:=hr
   obtain ⟨vs,h2,h3,_⟩:=ha.vals
   exact ⟨b,o,vs,rfl,h2.of_data,h3⟩
 | _=>simp [cellsAt] at h
def aLoad (P:Program) (t:TypeId) (mem:Mem) (p:PV) (K:PV→Prop):Prop :=
 match aggOf P t with
 | some none=>(match cellsAt mem p with
   | some (u::_)=>K u
   | _=>False)
 | some (some n)=>(match cellsAt mem p with
   | some cs=>n≤cs.length∧K (.agg (cs.take n))
   | none=>False)
 | none=>False
theorem load_sound {c:Cx} {mem:Mem} {t:TypeId} {p:PV} {pv:Value} {K:PV→Prop} (h:aLoad P t mem p K) (hr:Rep p c pv) (hI:InvM c mem) :
 ∃ v r,(Instr.loadAt t pv).run P c.w= .ok v c.w∧Rep r c v∧K r:=by
 unfold aLoad at h
 cases ha:aggOf P t with
 | none=>rw [ha] at h;exact h.elim
 | some q =>
   rw [ha] at h
   cases q with
   | none =>
     simp only at h
     obtain ⟨g1,g2⟩:=run_isAgg_one ha c.w
     cases hc:cellsAt mem p with
     | none=>rw [hc] at h;exact h.elim
     | some cs =>
       rw [hc] at h
       cases cs with
       | nil=>exact h.elim
       | cons u us =>
         simp only at h
         obtain ⟨b,o,vs,rfl,h2,h3⟩:=place_sound hc hr hI
         rw [RepL.cons_iff] at h2
         obtain ⟨x,xs,rfl,h4,_⟩:=h2
         refine ⟨x,u,?_,h4,h⟩
         have:=h3 0 x rfl
         simp only [Nat.add_zero] at this
         simp [Instr.loadAt,Instr.sureAddr,loadVar,g1,this]
   | some n =>
     simp only at h
     obtain ⟨g1,g2⟩:=run_isAgg_agg ha c.w
     cases hc:cellsAt mem p with
     | none=>rw [hc] at h;exact h.elim
     | some cs =>
       rw [hc] at h
       simp only at h
       obtain ⟨b,o,vs,rfl,h2,h3⟩:=place_sound hc hr hI
       have hlen:=h2.length
       have hl:=run_loadCells_list (P:=P) c.w ⟨b,o,none⟩ (vs.take n) (fun j v hj=>by
        rw [addr_add]
        rw [List.getElem?_take] at hj
        split at hj
        · exact h3 j v hj
        · cases hj)
       have hn:(vs.take n).length=n:=by rw [List.length_take,hlen];omega
       rw [hn] at hl
       refine ⟨.agg (vs.take n).toArray,.agg (cs.take n),?_,?_,h.2⟩
       · simp only [Instr.loadAt,Instr.sureAddr,loadVar,Sem.run_bind,Sem.run_pure,Result.andThen_ok,g1,if_true,g2,hl]
       · unfold Rep
         exact ⟨_,rfl,by simpa using h2.take n⟩
def cellsPV:PV→Option (List PV)
 | .agg cs=>if cs.all PV.isCell then some cs else none
 | u=>if u.isCell then some [u] else none
def setAt (cs:List PV) (o:Nat) (us:List PV):List PV:=cs.take o++us++cs.drop (o+us.length)
theorem oneCell_of_rep {u:PV} {c:Cx} {v:Value} (hu:u.isCell=true) (hI: ∀ i v,c.ρ i=some v→v.oneCell'=true) (hr:Rep u c v):v.oneCell'=true:=by
 cases u<;>simp only [PV.isCell] at hu<;>(try cases hu)<;>unfold Rep at hr
 case int=>subst hr;rfl
 case bool=>subst hr;rfl
 case str=>subst hr;rfl
 case nil=>subst hr;rfl
 case seq=>obtain ⟨a,cap,rfl,_⟩:=hr;rfl
 case ref=>obtain ⟨_,_,_,_,rfl⟩:=hr;rfl
 case own=>exact hI _ _ hr
 case clo=>obtain ⟨vs,rfl,_⟩:=hr;rfl
 case raw=>subst hr;exact hu
theorem cellsPV_sound {u:PV} {us:List PV} {c:Cx} {v:Value} (h:cellsPV u=some us) (hI: ∀ i v,c.ρ i=some v→v.oneCell'=true) (hr:Rep u c v) :
 RepL us c v.cells.toList∧(∀ x ∈ v.cells.toList,x.oneCell'=true)∧ ∀ x ∈ us,x.isCell=true:=by
 have hone: ∀ {us:List PV} {vs:List Value},(∀ x ∈ us,x.isCell=true)→RepL us c vs→ ∀ x ∈ vs,x.oneCell'=true:=by
  intro us
  induction us with
  | nil=>intro vs _ h;rw [RepL.nil_iff] at h;subst h;simp
  | cons t us ih =>
    intro vs hc h
    rw [RepL.cons_iff] at h
    obtain ⟨x,xs,rfl,h1,h2⟩:=h
    intro y hy
    rcases List.mem_cons.1 hy with rfl|hy
    · exact oneCell_of_rep (hc t (by simp)) hI h1
    · exact ih (fun z hz=>hc z (by simp [hz])) h2 y hy
 have hsingle:u.isCell=true→(∀ cs,u≠ .agg cs)→us=[u]→RepL us c v.cells.toList∧(∀ x ∈ v.cells.toList,x.oneCell'=true)∧ ∀ x ∈ us,x.isCell=true:=by
  rintro hu - rfl
  have ho:=oneCell_of_rep hu hI hr
  have hv:v.cells= #[v]:=by cases v<;>first|rfl|cases ho
  rw [hv]
  refine ⟨RepL.cons_iff.2 ⟨v,[],rfl,hr,RepL.nil_iff.2 rfl⟩,by simpa using ho,by simpa using hu⟩
 cases u with
 | agg cs =>
   simp only [cellsPV] at h
   split at h
   · rename_i hall
     simp only [Option.some.injEq] at h
     subst h
     unfold Rep at hr
     obtain ⟨vs,rfl,hr⟩:=hr
     rw [List.all_eq_true] at hall
     exact ⟨hr,hone hall hr,hall⟩
   · cases h
 | _ =>
   simp only [cellsPV] at h
   split at h
   · rename_i hu
     simp only [Option.some.injEq] at h
     exact hsingle hu (by simp) h.symm
   · cases h
def aStore (P:Program) (t:TypeId) (mem:Mem) (p u:PV) (K:Mem→Prop):Prop :=
 match cellsPV u,aggOf P t with
 | some us,some q=>us.length=q.getD 1∧(match p with
   | .ref i o=>(match mem i with
     | some (.box cs)=>o+us.length≤cs.length∧K (upd mem i (some (.box (setAt cs o us))))
     | _=>False)
   | .rref i k s o=>(match mem i with
     | some (.row e s' es)=>s=s'∧nmbL 0 us=true∧ ∃ x,es[k]?=some x∧o+us.length≤x.length∧K (upd mem i (some (.row e s' (es.set k (setAt x o us)))))
     | _=>False)
   | _=>False)
 | _,_=>False
theorem setRow_other (w:World) (g:Nat) (cs:Array Value) {b:Nat} (h:b≠g):(w.setRow g cs).heap[b]?=w.heap[b]?:=by
 unfold World.setRow
 simp only [Array.getElem?_modify]
 rw [if_neg (by omega)]
theorem setRow_size (w:World) (g:Nat) (cs:Array Value):(w.setRow g cs).heap.size=w.heap.size:=by simp [World.setRow]
theorem run_storeAt {t:TypeId} {q:Option Nat} (ha:aggOf P t=some q) {w:World} {g o:Nat} {e:TypeId} {cur:Array Value} {v:Value} (hg:w.heap[g]?=some (.cells cur e (0,0)))
 (hl:v.cells.toList.length=q.getD 1) (ho:o+v.cells.toList.length≤cur.size) (h1: ∀ x ∈ v.cells.toList,x.oneCell'=true) :
 (Instr.storeAt t (.pointer (some ⟨g,o,none⟩)) v).run P w= .ok () (w.setRow g (cur.toList.take o++v.cells.toList++cur.toList.drop (o+v.cells.toList.length)).toArray):=by
 have hst:=run_storeCells_at (P:=P) g o e v.cells.toList 0 cur w hg (by simpa using ho) h1
 simp only [Nat.add_zero] at hst
 have hs:(sizeOf t).run P w= .ok (q.getD 1) w:=by
  cases q with
  | none=>exact (run_isAgg_one ha w).2
  | some n=>exact (run_isAgg_agg ha w).2
 have hsz:v.cells.size=q.getD 1:=by simpa using hl
 simp only [Instr.storeAt,Instr.sureAddr,storeVar,Sem.run_bind,Sem.run_pure,Result.andThen_ok,hs,hsz,ne_eq,not_true_eq_false,if_false,hst]
theorem setAt_vals {cs us:List PV} {vs ws:List Value} {c:Cx} (o:Nat) (h:RepL cs c vs) (k:RepL us c ws):RepL (setAt cs o us) c (vs.take o++ws++vs.drop (o+ws.length)):=by
 have:=k.length
 unfold setAt
 rw [this]
 exact ((h.take o).append k).append (h.drop _)
theorem nmbL_all {n:Nat}: ∀ {us:List PV},nmbL n us=true↔ ∀ u ∈ us,u.nmb n=true
 | []=>by simp [nmbL]
 | u::us=>by simp [nmbL,nmbL_all (us:=us)]
theorem flatten_set {α:Type} {s:Nat}: ∀ {es:List (List α)} {k:Nat} {x y:List α},(∀ z ∈ es,z.length=s)→es[k]?=some x→y.length=s →
 (es.set k y).flatten=es.flatten.take (k * s)++y++es.flatten.drop (k * s+s)
 | [],k,x,y,_,hk,_=>by simp at hk
 | z::es,0,x,y,h,hk,hy=>by
   have hz:=h z (by simp)
   simp [List.drop_append,hz]
 | z::es,k+1,x,y,h,hk,hy=>by
   have hz:=h z (by simp)
   have ih:=flatten_set (fun w hw=>h w (by simp [hw])) (by simpa using hk:es[k]?=some x) hy
   have e1:(k+1) * s=s+k * s:=by rw [Nat.add_mul];omega
   have t1:(z++es.flatten).take (s+k * s)=z++es.flatten.take (k * s):=by
    rw [List.take_append,hz,List.take_of_length_le (l:=z) (by omega),Nat.add_sub_cancel_left]
   have d1:(z++es.flatten).drop (s+k * s+s)=es.flatten.drop (k * s+s):=by
    rw [List.drop_append,hz,List.drop_of_length_le (l:=z) (by omega),List.nil_append]
    congr 1
    omega
   simp only [List.set_cons_succ,List.flatten_cons,ih,e1,t1,d1,List.append_assoc]
theorem take_splice {α:Type} (A u:List α) (a N:Nat) (ha:a+u.length≤N) (hN:N≤A.length) :
 (A.take a++u++A.drop (a+u.length)).take N=(A.take N).take a++u++(A.take N).drop (a+u.length):=by
 have l1:(A.take a).length=a:=by simp;omega
 have l2:(A.take a++u).length=a+u.length:=by rw [List.length_append,l1]
 rw [List.take_append (l₁:=A.take a++u),l2,List.take_of_length_le (l:=A.take a++u) (by omega),List.take_take,Nat.min_eq_left (by omega),List.drop_take]
theorem store_sound {c:Cx} {mem:Mem} {n:Nat} {t:TypeId} {p u:PV} {pv uv:Value} {K:Mem→Prop} (h:aStore P t mem p u K) (hp:Rep p c pv) (hu:Rep u c uv) (hI:InvM c mem)
 (hn:Names c n) :
 ∃ c' mem',(Instr.storeAt t pv uv).run P c.w= .ok () c'.w∧K mem'∧Step c mem n c' mem' n∧c'.ρ=c.ρ:=by
 unfold aStore at h
 cases hcs:cellsPV u with
 | none=>rw [hcs] at h;exact h.elim
 | some us =>
 cases ha:aggOf P t with
 | none=>rw [hcs,ha] at h;exact h.elim
 | some q =>
 rw [hcs,ha] at h
 obtain ⟨hlen,h⟩:=h
 obtain ⟨g1,g2,g3⟩:=cellsPV_sound hcs hn.2 hu
 have hl1:=g1.length
 have hI':=hI
 obtain ⟨hf,S,h1,h2,h3⟩:=hI'
 cases p with
 | ref i o =>
   simp only at h
   cases hm:mem i with
   | none=>rw [hm] at h;exact h.elim
   | some mb =>
     rw [hm] at h
     cases mb with
     | box cs =>
       simp only at h
       obtain ⟨ho,hK⟩:=h
       obtain ⟨b,ty,vs,e1,e2,e3,e4⟩:=h1 i _ hm
       unfold Rep at hp
       obtain ⟨x,b',e5,e6,rfl⟩:=hp
       rw [e1] at e5
       cases e5
       simp only [baseOf,Option.some.injEq] at e6
       subst e6
       have hlen3:=e3.length
       have hrun:=run_storeAt ha e2 (v:=uv) (o:=o) (by rw [hl1,hlen]) (by rw [hl1];simp at hlen3;omega) g2
       let w':=c.w.setRow b (vs.toList.take o++uv.cells.toList++vs.toList.drop (o+uv.cells.toList.length)).toArray
       have hput:=InvM.put (c:=c) (c':=⟨w',c.fz,c.ρ⟩) (mem:=mem) (mem':=upd mem i (some (.box (setAt cs o us)))) (j:=i) (S':=S i) hI (some i) rfl (fun _ _=>rfl) (.inr rfl) (upd_same _ _ _)
        (fun k hk=> .inl (upd_other _ _ hk)) (fun k hk=>by cases hk;exact ⟨by simp [hm],.inl rfl⟩) (.inl rfl) (by simp [w',setRow_size])
        (fun k hk hh=>setRow_other _ _ _ (by
          rintro rfl
          exact hh i _ _ rfl hm (h1 i _ hm) (by rw [e4])))
        (fun hle=>⟨b,ty,_,e1,setRow_heap _ _ _ _ _ _ e2,by simpa using RepL.mono _ hle (setAt_vals o e3 g1),e4⟩)
        (fun k hk=> .inl ⟨i,_,_,rfl,hm,h1 i _ hm,hk⟩)
       obtain ⟨i1,i2,i3⟩:=hput
       refine ⟨⟨w',c.fz,c.ρ⟩,_,hrun,hK,⟨i1,i2,rfl,rfl,rfl,by simp [w',setRow_size],fun k hk hh=>setRow_other _ _ _ ?_,i3,fun _ h=> .inl h,Nat.le_refl _,fun _ _=>rfl,hn⟩,rfl⟩
       rintro rfl
       exact hh ⟨i,_,_,hm,h1 i _ hm,by rw [e4]⟩
     | _=>exact h.elim
 | rref i k s o =>
   simp only at h
   cases hm:mem i with
   | none=>rw [hm] at h;exact h.elim
   | some mb =>
     rw [hm] at h
     cases mb with
     | row e s' es =>
       simp only at h
       obtain ⟨rfl,hsc,x,hx,ho,hK⟩:=h
       obtain ⟨v,vs,e1,e2,e3,e4,e5⟩:=h1 i _ hm
       unfold Rep at hp
       obtain ⟨y,b,e6,e7,rfl⟩:=hp
       rw [e1] at e6
       cases e6
       obtain ⟨hl2,e2'⟩:=e2
       rcases e2' with ⟨rfl,_⟩|⟨g,cap,cur,rfl,_,hh,hnc,hcap,hcs',htk⟩
       · simp [baseOf] at e7
       simp only [baseOf,Option.some.injEq] at e7
       subst e7
       have hxl:=e4.1 x (List.mem_of_getElem? hx)
       have hk:k<es.length:=(List.getElem?_eq_some_iff.1 hx).1
       have hks:k * s+s≤es.length * s:=by
        calc k * s+s=(k+1) * s:=by rw [Nat.add_mul];omega
         _≤es.length * s:=Nat.mul_le_mul_right _ hk
       have hcz:es.length * s≤cur.size:=by rw [hcs'];exact Nat.mul_le_mul_right _ hnc
       have hrun:=run_storeAt ha hh (v:=uv) (o:=k * s+o) (by rw [hl1,hlen]) (by rw [hl1];omega) g2
       let w':=c.w.setRow g (cur.toList.take (k * s+o)++uv.cells.toList++cur.toList.drop (k * s+o+uv.cells.toList.length)).toArray
       have hrow:(es.set k (setAt x o us)).length=es.length:=by simp
       have hsl:(setAt x o us).length=s:=by simp [setAt];omega
       have hfl:=flatten_set e4.1 hx hsl
       have hflx:=flat_get e4.1 hx
       have hflat:(es.set k (setAt x o us)).flatten=es.flatten.take (k * s+o)++us++es.flatten.drop (k * s+o+us.length):=by
        rw [hfl]
        have hL:=flatten_length e4.1
        have d1:x.take o=(es.flatten.drop (k * s)).take o:=by rw [← hflx,List.take_take,Nat.min_eq_left (by omega)]
        have d2:x.drop (o+us.length)++es.flatten.drop (k * s+s)=es.flatten.drop (k * s+o+us.length):=by
         have:es.flatten.drop (k * s+o+us.length)=(es.flatten.drop (k * s)).drop (o+us.length):=by rw [List.drop_drop];congr 1;omega
         rw [this]
         have e8:es.flatten.drop (k * s)=x++es.flatten.drop (k * s+s):=by
          conv=>lhs;rw [← List.take_append_drop s (es.flatten.drop (k * s))]
          rw [hflx,List.drop_drop]
         rw [e8,List.drop_append]
         congr 1
         rw [show o+us.length - x.length=0 from by omega]
         rfl
        unfold setAt
        rw [d1,← d2,List.take_add]
        simp only [List.append_assoc]
       have hvl:vs.length=es.length * s:=hl2
       have hvs':(cur.toList.take (k * s+o)++uv.cells.toList++cur.toList.drop (k * s+o+uv.cells.toList.length)).take (es.length * s)=vs.take (k * s+o)++uv.cells.toList++vs.drop (k * s+o+us.length):=by
        rw [take_splice _ _ _ _ (by rw [hl1];omega) (by simpa using hcz),htk,hl1]
       have hput:=InvM.put (c:=c) (c':=⟨w',c.fz,c.ρ⟩) (mem:=mem) (mem':=upd mem i (some (.row e s (es.set k (setAt x o us))))) (j:=i) (S':=S i) hI (some i) rfl (fun _ _=>rfl) (.inr rfl) (upd_same _ _ _)
        (fun k hk=> .inl (upd_other _ _ hk)) (fun k hk=>by cases hk;exact ⟨by simp [hm],.inl rfl⟩) (.inl rfl) (by simp [w',setRow_size])
        (fun k hk hh'=>setRow_other _ _ _ (by
          rintro rfl
          exact hh' i _ _ rfl hm (h1 i _ hm) (by rw [e5];rfl)))
        (fun hle=>by
          refine ⟨.slice (some ⟨g,0,none⟩) es.length cap,vs.take (k * s+o)++uv.cells.toList++vs.drop (k * s+o+us.length),e1,⟨?_,.inr ⟨g,cap,(cur.toList.take (k * s+o)++uv.cells.toList++cur.toList.drop (k * s+o+uv.cells.toList.length)).toArray,by rw [hrow],Nat.zero_le _,setRow_heap _ _ _ _ _ _ hh,by rw [hrow];exact hnc,hcap,?_,?_⟩⟩,?_,⟨?_,?_⟩,e5⟩
          · have hsz:uv.cells.size=us.length:=by simpa using hl1
            rw [hrow];simp;omega
          · have hsz:uv.cells.size=us.length:=by simpa using hl1
            rw [← hcs'];simp;omega
          · rw [hrow];simpa using hvs'
          · rw [hflat]
            have hm1:=RepL.mono _ hle.data e3
            exact ((hm1.take _).append (RepL.mono _ hle.data (g1.to_data hsc))).append (hm1.drop _)
          · intro y hy
            rcases List.mem_or_eq_of_mem_set hy with hy|rfl
            · exact e4.1 y hy
            · exact hsl
          · intro y hy
            rw [hflat] at hy
            rcases List.mem_append.1 hy with hy|hy
            · rcases List.mem_append.1 hy with hy|hy
              · exact e4.2 y (List.mem_of_mem_take hy)
              · exact g3 y hy
            · exact e4.2 y (List.mem_of_mem_drop hy))
        (fun k hk=> .inl ⟨i,_,_,rfl,hm,h1 i _ hm,hk⟩)
       obtain ⟨i1,i2,i3⟩:=hput
       refine ⟨⟨w',c.fz,c.ρ⟩,_,hrun,hK,⟨i1,i2,rfl,rfl,rfl,by simp [w',setRow_size],fun k hk hh'=>setRow_other _ _ _ ?_,i3,fun _ h=> .inl h,Nat.le_refl _,fun _ _=>rfl,hn⟩,rfl⟩
       rintro rfl
       exact hh' ⟨i,_,_,hm,h1 i _ hm,by rw [e5];rfl⟩
     | _=>exact h.elim
 | _=>exact h.elim
end
end Go.Proofs.YtnbjogilidfkdaaGreat
