/- Contracts; one operation; regions; the whole code: the abstract reading of code, and that the model does what it says. -/
import Derived.Test.YtnbjogilidfkdaaGreatVF6
import Derived.Laws.MakeOwn
import Derived.Scope
import Derived.Orders
import Derived.Laws.IdiomStrings

namespace Go.Proofs.YtnbjogilidfkdaaGreat
set_option maxRecDepth 100000
set_option linter.unusedVariables false
set_option linter.unusedSimpArgs false
open Go.RowKit
abbrev AC:=List PV→Mem→Nat→(PV→Mem→Nat→Prop)→Prop
abbrev Ctr:=FuncId→Option AC
section
variable {P:Program}
structure ACok (P:Program) (f:FuncId) (C:AC):Prop where
 fn: ∃ fn,P.funcs[f]?=some fn∧fn.body.isNone=false∧(fn.name == "runtime.NumGoroutine")=false
 run: ∀ (c:Cx) (mem:Mem) (n:Nat) (args:List PV) (vs:List Value) (K:PV→Mem→Nat→Prop),InvM c mem→Names c n→RepL args c vs→C args mem n K →
  Calls P f vs.toArray c.w (fun e w'=> ∃ v r c' mem' n',e= .returned v∧c'.w=w'∧K r mem' n'∧Step c mem n c' mem' n'∧Rep r c' v)
def aPick (t a b:PV) (K:PV→Prop):Prop :=
 match t with
 | .bool x=>(x=true→K a)∧(x=false→K b)
 | _=>False
def aNil (x:PV) (K:PV→Prop):Prop :=
 match x with
 | .ref .. | .rref .. | .eref _| .clo .. =>K x
 | _=>False
def aMk (P:Program) (t:TypeId) (l cp:PV) (mem:Mem) (n:Nat) (K:PV→Mem→Nat→Prop):Prop :=
 match elOf P t,l,cp with
 | some (e,s,by_),.int _ k,.int _ k'=>k=k'∧0≤k∧(by_:Int) * k≤281474976710656∧k≤9223372036854775807∧(match zeroOf P e with
   | some zs=>((zs.map (resC fun _=>none)).all fun u=>u.isCell && u.nmb 0)=true∧K (.own n) (upd mem n (some (.row e s (List.replicate k.toNat (zs.map (resC fun _=>none)))))) (n+1)
   | none=>False)
 | _,_,_=>False
def aLenL (P:Program) (mem:Mem) (xs:List PV) (ts:List TypeId) (K:PV→Prop):Prop :=
 match xs,ts with
 | [x],[t]=>aLen P t mem x K
 | _,_=>False
def aCall (P:Program) (Γ:Ctr) (ev:Operand→PV) (cl:Call) (mem:Mem) (n:Nat) (K:PV→Mem→Nat→Prop):Prop :=
 match cl.callee with
 | .builtin .len=>aLenL P mem (cl.args.toList.map ev) cl.argTypes.toList fun r=>K r mem n
 | .builtin .append=>(match cl.args.toList.map ev,cl.argTypes.toList with
   | [x,y],[t,t']=>t=t'∧aApp P t x y mem n K
   | _,_=>False)
 | .builtin .max=>aMax max (cl.args.toList.map ev) fun r=>K r mem n
 | .builtin .min=>aMax min (cl.args.toList.map ev) fun r=>K r mem n
 | .value f=>(match ev f with
   | .clo g caps=>(match Γ g with
     | some C=>C (cl.args.toList.map ev++caps) mem n K
     | none=>False)
   | _=>False)
 | _=>False
def aConvX (P:Program) (s d:TypeId) (x:PV) (mem:Mem) (n:Nat) (K:PV→Mem→Nat→Prop):Prop :=
 match kindOf P s,kindOf P d,x with
 | some (.inr .bytes),some (.inr .bytes),.own i=>(match mem i with
   | some (.row _ _ es)=>s=d∧0<es.length∧K (.own i) (upd mem i (some (.fro es))) n
   | _=>False)
 | _,_,_=>aConv P s d mem x fun r=>K r mem n
def aop (P:Program) (Γ:Ctr) (ev:Operand→PV) (op:Op) (mem:Mem) (n:Nat) (K:PV→Mem→Nat→Prop):Prop :=
 match op with
 | .move x=>K (ev x) mem n
 | .assign x=>K (ev x) mem n
 | .pick c a b=>aPick (ev c) (ev a) (ev b) fun r=>K r mem n
 | .alloc t=>aAlloc P t mem n K
 | .box _ x=>aBox mem n (ev x) K
 | .build t ps=>aBuild P t (ps.toList.map fun p=>(p.1,ev p.2)) fun r=>K r mem n
 | .buildSlice t len ps=>aBSlice P t len (ps.toList.map fun p=>(p.1,ev p.2)) mem n K
 | .load t a=>aLoad P t mem (ev a) fun r=>K r mem n
 | .store t a x=>aStore P t mem (ev a) (ev x) fun m=>K .undef m n
 | .nilCheck x=>aNil (ev x) fun r=>K r mem n
 | .binOp op t x y _=>aBin' P op t (ev x) (ev y) fun r=>K r mem n
 | .unOp op _ x=>aUn op (ev x) fun r=>K r mem n
 | .convert s d x=>aConvX P s d (ev x) mem n K
 | .makeFunc (.func f) first caps=>first.size=0∧K (.clo f (caps.toList.map ev)) mem n
 | .makeSlice t l cp=>aMk P t (ev l) (ev cp) mem n K
 | .slice t x lo hi none=>aSlice P t mem n (ev x) (lo.map ev) (hi.map ev) K
 | .fieldAddr t x f=>aFld P t f (ev x) fun r=>K r mem n
 | .field t x f=>aField P t (ev x) f fun r=>K r mem n
 | .indexAddr t x ix=>aIdx P t mem (ev x) (ev ix) fun r=>K r mem n
 | .index t x ix=>aIndex P t (ev x) (ev ix) fun r=>K r mem n
 | .extract x i=>aExtract (ev x) i fun r=>K r mem n
 | .call cl=>aCall P Γ ev cl mem n K
 | _=>False
theorem repL_ev {c:Cx} {ev:Operand→PV} {av:Operand→Value} (hev: ∀ x,Rep (ev x) c (av x)): ∀ xs:List Operand,RepL (xs.map ev) c (xs.map av)
 | []=>by simp [RepL.nil_iff]
 | x::xs=>by rw [List.map_cons,List.map_cons,RepL.cons_iff];exact ⟨_,_,rfl,hev x,repL_ev hev xs⟩
theorem repP_ev {c:Cx} {ev:Operand→PV} {av:Operand→Value} (hev: ∀ x,Rep (ev x) c (av x)): ∀ xs:List (Nat×Operand),RepP c (xs.map fun p=>(p.1,ev p.2)) (xs.map fun p=>(p.1,av p.2))
 | []=>by simp [RepP]
 | x::xs=>by simp only [List.map_cons,RepP];exact ⟨trivial,hev x.2,repP_ev hev xs⟩
theorem mk_sound {c:Cx} {mem:Mem} {n:Nat} {t:TypeId} {l cp:PV} {lv cv:Value} {K:PV→Mem→Nat→Prop} (h:aMk P t l cp mem n K) (hl:Rep l c lv) (hc:Rep cp c cv) (hI:InvM c mem) (hn:Names c n) :
 Out P (Instr.makeSlice t lv cv) c mem n K:=by
 unfold aMk at h
 cases he:elOf P t with
 | none=>rw [he] at h;exact h.elim
 | some q =>
 obtain ⟨e,s,by_⟩:=q
 rw [he] at h
 cases l with
 | int kl k =>
   cases cp with
   | int kc k' =>
     simp only at h
     obtain ⟨rfl,h0,h1,h2,h⟩:=h
     cases hz:zeroOf P e with
     | none=>rw [hz] at h;exact h.elim
     | some zs =>
     rw [hz] at h
     obtain ⟨hall,hK⟩:=h
     obtain ⟨inf,z,k1,k2,k3,k4,k5,k6,k7⟩:=elOf_run he
     unfold Rep at hl hc
     subst hl hc
     have hzs:zs=z.cells.toList.map pvOf:=by
      unfold zeroOf at hz
      rw [k2] at hz
      simp only [Option.bind_some,k3] at hz
      split at hz
      · simp only [Option.some.injEq] at hz;exact hz.symm
      · cases hz
     have hrun:=run_make (P:=P) c.w t e inf z k1 k2 k3 kl kc k k h0 (Int.le_refl _) (by rw [k5];exact h1) h2
     rw [k4] at hrun
     have hrep:RepL (zs.map (resC fun _=>none)) c z.cells.toList:=by
      rw [hzs,List.map_map]
      have:=repL_map (c:=c) (resC fun _=>none) (us:=z.cells.toList.map pvOf) (vs:=z.cells.toList) (fun u hu v hv=>by
       obtain ⟨x,hx,rfl⟩:=List.mem_map.1 hu
       unfold pvOf at hv ⊢
       split at hv<;>first|exact hv|exact rep_nil hv) (repL_pvOf c _)
      simpa using this
     simp only [List.all_eq_true,Bool.and_eq_true] at hall
     have hlen:(zs.map (resC fun _=>none)).length=s:=by rw [hzs];simp [k6]
     have hmade:(madeCells z.cells (k.toNat * s)).toList=(List.replicate k.toNat z.cells.toList).flatten:=by
      have hcy: ∀ (m:Nat),(List.range (m * s)).map (fun i=>z.cells[i % z.cells.size]!)=(List.replicate m z.cells.toList).flatten:=by
       intro m
       induction m with
       | zero=>simp
       | succ m ih =>
         rw [Nat.add_mul,Nat.one_mul,List.range_add,List.map_append,ih,List.replicate_succ',List.flatten_append]
         congr 1
         simp only [List.flatten_cons,List.flatten_nil,List.append_nil,List.map_map]
         apply List.ext_getElem?
         intro j
         by_cases hj:j<s
         · have e1:(m * s+j) % s=j:=by rw [Nat.mul_comm,Nat.mul_add_mod,Nat.mod_eq_of_lt hj]
           have hjz:j<z.cells.size:=by omega
           simp [hj,k6,e1,hjz]
         · rw [List.getElem?_eq_none (by simp;omega),List.getElem?_eq_none (by simp;omega)]
      have:=hcy k.toNat
      simp only [madeCells,Array.toList_map,Array.toList_range]
      exact this
     have hfl:RepL (List.replicate k.toNat (zs.map (resC fun _=>none))).flatten c (List.replicate k.toNat z.cells.toList).flatten:=by
      generalize k.toNat=m
      induction m with
      | zero=>simp [RepL.nil_iff]
      | succ m ih=>rw [List.replicate_succ,List.replicate_succ,List.flatten_cons,List.flatten_cons];exact hrep.append ih
     have hown:=World.ownsRow_lit (base:=0) (e:=e) (size:=s) c.w (madeCells z.cells (k.toNat * s)) k.toNat (Nat.zero_le _) (by unfold maxLen;omega) (size_madeCells _ _)
     obtain ⟨c',q1,q2,q3,q4⟩:=new_row hI hn none (w':=c.w.alloc (.cells (madeCells z.cells (k.toNat * s)) e)) (v:= .slice (some ⟨c.w.heap.size,0,none⟩) k.toNat k.toNat) (e:=e) (s:=s)
      (es:=List.replicate k.toNat (zs.map (resC fun _=>none))) (vs:=(madeCells z.cells (k.toNat * s)).toList) rfl rfl rfl (by simp)
      (fun i hi=>by cases hi) (fun b hb _=>heap_alloc_lt _ _ hb) (by rw [List.length_replicate];exact hown)
      (by rw [hmade];exact hfl.to_data (by
        rw [nmbL_all]
        intro u hu
        simp only [List.mem_flatten,List.mem_replicate] at hu
        obtain ⟨y,⟨_,rfl⟩,hu⟩:=hu
        exact (hall u hu).2))
      ⟨fun x hx=>by rw [(List.mem_replicate.1 hx).2];exact hlen,fun u hu=>by
       simp only [List.mem_flatten,List.mem_replicate] at hu
       obtain ⟨y,⟨_,rfl⟩,hu⟩:=hu
       exact (hall u hu).1⟩
      (fun b hb=> .inr (by simp only [Value.ownBlock,Option.some.injEq] at hb;omega))
     exact ⟨_,_,c',_,_,by rw [q1];exact hrun,hK,q2,q3⟩
   | _=>exact h.elim
 | _=>exact h.elim
theorem freeze_heap (w:World) (g k:Nat) {b:Nat} (h:b≠g):(w.freeze ⟨g,k,none⟩ 1).heap[b]?=w.heap[b]?:=by
 unfold World.freeze
 rw [if_neg (by decide)]
 simp [Array.getElem?_modify,Ne.symm h]
theorem freeze_cell (w:World) (g k:Nat) (b o:Nat):(w.freeze ⟨g,k,none⟩ 1).cell? ⟨b,o,none⟩=w.cell? ⟨b,o,none⟩:=by
 by_cases h:b=g
 · subst h
   unfold World.freeze
   rw [if_neg (by decide)]
   simp only [World.cell?,Array.getElem?_modify,if_true]
   cases hq:w.heap[b]? with
   | none=>rfl
   | some x=>cases x<;>rfl
 · exact cell_of_block (freeze_heap w g k h) o
/-- A row of bytes, 'turned' to its own type: from there on it never changes. -/
theorem convX_sound {c:Cx} {mem:Mem} {n:Nat} {s d:TypeId} {x:PV} {v:Value} {K:PV→Mem→Nat→Prop} (h:aConvX P s d x mem n K) (hx:Rep x c v) (hI:InvM c mem) (hn:Names c n) :
 Out P (convert s d v) c mem n K:=by
 have plain:(aConv P s d mem x fun r=>K r mem n)→Out P (convert s d v) c mem n K:=by
  intro h
  obtain ⟨v',r,c',h1,h2,h3,h4⟩:=conv_sound (n:=n) h hx hI hn
  exact ⟨v',r,c',mem,n,h1,h3,h4,h2⟩
 unfold aConvX at h
 split at h
 · rename_i i hs hd
   split at h
   · rename_i e sz es hm
     obtain ⟨rfl,hpos,hK⟩:=h
     obtain ⟨e0,k1,k2⟩:=kindOf_bytes hs
     obtain ⟨u,hu,hI1,hle1,hseq,hmine,hmine1⟩:=hI.freeze hm
     obtain ⟨_,S,g1,_,_⟩:=id hI
     obtain ⟨u',vs,hu',hown,hrl,hcs,hS⟩:=g1 i _ hm
     rw [hu] at hu'
     cases hu'
     unfold Rep at hx
     rw [hu] at hx
     cases hx
     have hstep1:Step c mem n ⟨c.w,fun b=>c.fz b∨v.ownBlock=some b,c.ρ⟩ (upd mem i (some (.fro es))) n :=
      ⟨hI1,hle1,rfl,rfl,rfl,Nat.le_refl _,fun _ _ _=>rfl,fun b hb=> .inl (hmine1 b hb),fun b hb=>hb.imp id (fun hb=> .inl (hmine b hb)),Nat.le_refl _,fun _ _=>rfl,hn⟩
     rcases hown.2 with ⟨rfl,h0⟩|⟨g,cap,cur,rfl,hg0,hh,hrest⟩
     · omega
     · have hfz1:(fun b=>c.fz b∨(Value.slice (some ⟨g,0,none⟩) es.length cap).ownBlock=some b) g:= .inr rfl
       let w':=c.w.freeze ⟨g,cur.size,none⟩ 1
       have hrun:(convert s s (.slice (some ⟨g,0,none⟩) es.length cap)).run P c.w= .ok (.slice (some ⟨g,0,none⟩) es.length cap) w':=by
        have hsh:c.w.shape? g=some (e,cur.size):=by simp [World.shape?,hh]
        simp [convert,run_underlying k1,run_underlying k2,markStringish,hsh,w']
       let c1:Cx:=⟨c.w,fun b=>c.fz b∨(Value.slice (some ⟨g,0,none⟩) es.length cap).ownBlock=some b,c.ρ⟩
       let c2:Cx:=⟨w',c1.fz,c.ρ⟩
       have hsz:c.w.heap.size≤w'.heap.size:=by simp [w',World.freeze]
       have hsz2:w'.heap.size=c.w.heap.size:=by simp [w',World.freeze]
       have hle2:c1.Le c2:=⟨fun _ h=>h,fun b _ o=>freeze_cell c.w g cur.size b o,fun _ _ h=>h⟩
       obtain ⟨hf1,S1,q1,q2,q3⟩:=id hI1
       have hkeep: ∀ j mb,upd mem i (some (.fro es)) j=some mb→MRep c2 j (S1 j) mb:=fun j mb hj =>
        MRep.mono hle2 (fun b hb=>freeze_heap c.w g cur.size (fun e=>q3 j b (by rw [hj];simp) hb (by rw [e];exact hfz1))) (q1 j mb hj)
       have hI2:InvM c2 (upd mem i (some (.fro es))):=⟨hf1.mono hle2 (fun b hb=>by rw [hsz2];exact hf1.lt b hb),S1,hkeep,q2,q3⟩
       have hstep2:Step c mem n c2 (upd mem i (some (.fro es))) n:=by
        refine ⟨hI2,hle1.trans hle2,?_,?_,?_,hsz,fun b hb hb'=>?_,fun b hb=>?_,hstep1.fzNew,Nat.le_refl _,fun _ _=>rfl,hn⟩
        · simp [c2,w',World.freeze]
        · simp [c2,w',World.freeze]
        · simp [c2,w',World.freeze]
        · exact freeze_heap c.w g cur.size (fun e=>hb' (by rw [e];exact hmine g rfl))
        · obtain ⟨j,T,mb,hj,hT,hb'⟩:=hb
          have e:=MRep.det hT (hkeep j mb hj)
          subst e
          exact .inl (hmine1 b ⟨j,_,mb,hj,q1 j mb hj,hb'⟩)
       exact ⟨_,_,c2,_,_,hrun,hK,hstep2,by unfold Rep;exact hu⟩
   · exact h.elim
 · exact plain h
theorem convX_of {s d:TypeId} {x:PV} {mem:Mem} {n:Nat} {K:PV→Prop} (h:aConv P s d mem x K):aConvX P s d x mem n fun r m k=>K r∧m=mem∧k=n:=by
 unfold aConvX
 split
 · rename_i i hs hd
   unfold aConv at h
   rw [hs,hd] at h
   exact h.elim
 · simpa using h
theorem wp_val {o:Oper} {a:Act} {c:Cx} {mem:Mem} {n:Nat} {K:PV→Mem→Nat→Prop} {next:Act→World→Prop} {Q:Exit→Act→World→Prop} (s:Sem Value)
 (hx:execOp a.eval o=(do pure (.value (← s)))) (h:Out P s c mem n K)
 (hK: ∀ r c' mem' n' v,K r mem' n'→Step c mem n c' mem' n'→Rep r c' v→next (a.put o.dst v) c'.w):o.wp P a c.w next Q:=by
 obtain ⟨v,r,c',mem',n',h1,h2,h3,h4⟩:=h
 unfold Oper.wp
 rw [hx]
 simp only [Sem.run_bind,h1,Result.andThen_ok,Sem.run_pure,Oper.upon_value]
 exact hK r c' mem' n' v h2 h3 h4
theorem op_sound {Γ:Ctr} (hΓ: ∀ f C,Γ f=some C→ACok P f C) {o:Oper} {a:Act} {c:Cx} {mem:Mem} {n:Nat} {ev:Operand→PV} {K:PV→Mem→Nat→Prop} {next:Act→World→Prop} {Q:Exit→Act→World→Prop}
 (h:aop P Γ ev o.op mem n K) (hev: ∀ x,Rep (ev x) c (a.eval x)) (hI:InvM c mem) (hn:Names c n)
 (hK: ∀ r c' mem' n' v,K r mem' n'→Step c mem n c' mem' n'→Rep r c' v→next (a.put o.dst v) c'.w):o.wp P a c.w next Q:=by
 obtain ⟨dst,op,type,pos,after,guard⟩:=o
 have st:Step c mem n c mem n:= .refl hI hn
 have quiet: ∀ {s:Sem Value},(∃ v r,s.run P c.w= .ok v c.w∧Rep r c v∧K r mem n)→Out P s c mem n K:=fun ⟨v,r,h1,h2,h3⟩=>Out.here hI hn h1 h2 h3
 cases op<;>simp only [aop] at h<;>(try exact h.elim)
 case move x =>
  show Oper.upon P _ a next Q ((execOp a.eval _).run P c.w)
  simp only [execOp,Sem.run_pure,Oper.upon_value]
  exact hK _ c mem n _ h st (hev x)
 case assign x =>
  show Oper.upon P _ a next Q ((execOp a.eval _).run P c.w)
  simp only [execOp,Sem.run_pure,Oper.upon_value]
  exact hK _ c mem n _ h st (hev x)
 case pick t x y =>
  unfold aPick at h
  cases hc:ev t with
  | bool b =>
    rw [hc] at h
    have ht:=hev t
    rw [hc] at ht
    unfold Rep at ht
    show Oper.upon P _ a next Q ((execOp a.eval _).run P c.w)
    simp only [execOp,ht,asBool,Sem.run_bind,Sem.run_pure,Result.andThen_ok,Oper.upon_value]
    cases b with
    | true=>exact hK _ c mem n _ (h.1 rfl) st (hev x)
    | false=>exact hK _ c mem n _ (h.2 rfl) st (hev y)
  | _=>rw [hc] at h;exact h.elim
 case alloc t=>exact wp_val _ rfl (alloc_sound h hI hn) hK
 case box t x=>exact wp_val _ rfl (box_sound h (hev x) hI hn) hK
 case build t ps =>
  refine wp_val _ rfl (quiet (build_sound hn h ?_)) hK
  have:=repP_ev hev ps.toList
  simpa using this
 case buildSlice t len ps =>
  refine wp_val _ rfl (bslice_sound h ?_ hI hn) hK
  have:=repP_ev hev ps.toList
  simpa using this
 case load t x=>exact wp_val _ rfl (quiet (load_sound h (hev x) hI)) hK
 case store t x y =>
  obtain ⟨c',mem',h1,h2,h3,h4⟩:=store_sound (n:=n) h (hev x) (hev y) hI hn
  show Oper.upon P _ a next Q ((execOp a.eval _).run P c.w)
  simp only [execOp,Sem.run_bind,h1,Result.andThen_ok,Sem.run_pure,Oper.upon_skip]
  exact hK .undef c' mem' n _ h2 h3 (by unfold Rep;trivial)
 case nilCheck x =>
  have hx:=hev x
  unfold aNil at h
  show Oper.upon P _ a next Q ((execOp a.eval _).run P c.w)
  cases hc:ev x<;>rw [hc] at h hx<;>simp only at h<;>first|exact h.elim|skip
  all_goals
   unfold Rep at hx
  · obtain ⟨u,b,e1,e2,e3⟩:=hx
    simp only [execOp,e3,Sem.run_pure,Oper.upon_value]
    exact hK _ c mem n _ h st (by unfold Rep;exact ⟨u,b,e1,e2,rfl⟩)
  · obtain ⟨u,b,e1,e2,e3⟩:=hx
    simp only [execOp,e3,Sem.run_pure,Oper.upon_value]
    exact hK _ c mem n _ h st (by unfold Rep;exact ⟨u,b,e1,e2,rfl⟩)
  · obtain ⟨b,o,e1,e2⟩:=hx
    simp only [execOp,e1,Sem.run_pure,Oper.upon_value]
    exact hK _ c mem n _ h st (by unfold Rep;exact ⟨b,o,rfl,e2⟩)
  · obtain ⟨vs,e1,e2⟩:=hx
    simp only [execOp,e1,Sem.run_pure,Oper.upon_value]
    exact hK _ c mem n _ h st (by unfold Rep;exact ⟨vs,rfl,e2⟩)
 case binOp op t x y t'=>exact wp_val _ rfl (quiet (bin_sound h (hev x) (hev y) x y)) hK
 case unOp op t x=>exact wp_val _ rfl (quiet (un_sound h (hev x))) hK
 case convert s d x=>exact wp_val _ rfl (convX_sound h (hev x) hI hn) hK
 case makeFunc fn first caps =>
  cases fn<;>simp only [aop] at h<;>(try exact h.elim)
  rename_i f
  show Oper.upon P _ a next Q ((execOp a.eval _).run P c.w)
  have hf:first= #[]:=Array.eq_empty_of_size_eq_zero h.1
  subst hf
  simp only [execOp,Instr.makeFunc,Sem.run_bind,Sem.run_pure,Result.andThen_ok,Oper.upon_value]
  refine hK _ c mem n _ h.2 st ?_
  unfold Rep
  refine ⟨_,by simp;rfl,?_⟩
  have:=repL_ev hev caps.toList
  simpa using this
 case makeSlice t l cp=>exact wp_val _ rfl (mk_sound h (hev l) (hev cp) hI hn) hK
 case slice t x lo hi mx =>
  cases mx<;>simp only [aop] at h<;>(try exact h.elim)
  refine wp_val (Instr.sliceAt t (a.eval x) (lo.map a.eval) (hi.map a.eval) none) rfl (slice_sound h (hev x) ?_ ?_ ?_ ?_ hI hn) hK
  · intro u hu
    cases lo with
    | none=>cases hu
    | some y=>cases hu;exact ⟨_,rfl,hev y⟩
  · intro hu;cases lo with
    | none=>rfl
    | some y=>cases hu
  · intro u hu
    cases hi with
    | none=>cases hu
    | some y=>cases hu;exact ⟨_,rfl,hev y⟩
  · intro hu;cases hi with
    | none=>rfl
    | some y=>cases hu
 case fieldAddr t x f=>exact wp_val _ rfl (quiet (fld_sound h (hev x))) hK
 case field t x f=>exact wp_val _ rfl (quiet (field_sound h (hev x))) hK
 case indexAddr t x ix=>exact wp_val _ rfl (quiet (idx_sound h (hev x) (hev ix) hI)) hK
 case index t x ix=>exact wp_val _ rfl (quiet (index_sound h (hev x) (hev ix))) hK
 case extract x i=>exact wp_val _ rfl (quiet (extract_sound h (hev x))) hK
 case call cl =>
  obtain ⟨callee,args,argTypes⟩:=cl
  have hargs:=repL_ev hev args.toList
  unfold aCall at h
  cases callee<;>simp only at h<;>(try exact h.elim)
  case value f =>
   cases hc:ev f with
   | clo g caps =>
     rw [hc] at h
     simp only at h
     cases hg:Γ g with
     | none=>rw [hg] at h;exact h.elim
     | some C =>
       rw [hg] at h
       simp only at h
       obtain ⟨⟨fn,f1,f2,f3⟩,hrun⟩:=hΓ g C hg
       have hf:=hev f
       rw [hc] at hf
       unfold Rep at hf
       obtain ⟨vs,hv,hcaps⟩:=hf
       have hc':=hrun c mem n _ _ K hI hn (hargs.append hcaps) h
       show Oper.upon P _ a next Q ((execOp a.eval _).run P c.w)
       have e1:(args.toList.map a.eval++vs.toList).toArray=args.map a.eval++vs:=by
        apply Array.ext'
        simp
       rw [e1] at hc'
       simp only [execOp,resolve,hv,Deferred.ofValue,invoke,callFunc,Sem.run_bind,Sem.run_pure,Result.andThen_ok,run_program,f1,f2,f3,Bool.false_eq_true,if_false,Array.empty_append,Oper.upon_enter]
       refine hc'.mono ?_
       rintro e w' ⟨v,r,c',mem',n',rfl,rfl,g1,g2,g3⟩
       exact hK r c' mem' n' v g1 g2 g3
   | _=>rw [hc] at h;exact h.elim
  case builtin b =>
   have hea:(args.toList.map a.eval).toArray=args.map a.eval:=by apply Array.ext';simp
   have hblt: ∀ (s:Sem Value),(∀ cs,builtin b argTypes type cs (args.map a.eval)=(do pure (.value (← s))))→Out P s c mem n K →
    Oper.wp P ⟨dst,.call ⟨.builtin b,args,argTypes⟩,type,pos,after,guard⟩ a c.w next Q:=by
    intro s hs ho
    obtain ⟨v,r,c',mem',n',h1,h2,h3,h4⟩:=ho
    show Oper.upon P _ a next Q ((execOp a.eval _).run P c.w)
    simp only [execOp,resolve,invoke,Sem.run_bind,Sem.run_pure,Result.andThen_ok,hs,h1,Oper.upon_value]
    exact hK r c' mem' n' v h2 h3 h4
   cases b<;>simp only at h<;>(try exact h.elim)
   case append =>
    match hx:args.toList,ht:argTypes.toList with
    | [x,y],[t,t'] =>
      rw [hx,ht] at h
      simp only [List.map_cons,List.map_nil] at h
      obtain ⟨rfl,h⟩:=h
      have ea:args= #[x,y]:=by rw [← Array.toArray_toList (xs:=args),hx]
      have et:argTypes= #[t,t]:=by rw [← Array.toArray_toList (xs:=argTypes),ht]
      subst ea et
      exact hblt _ (fun _=>rfl) (by simpa using app_sound (ty:=type) h (hev x) (hev y) hI hn)
    | [],_=>rw [hx] at h;exact h.elim
    | [_],_=>rw [hx] at h;exact h.elim
    | _::_::_::_,_=>rw [hx] at h;exact h.elim
    | [_,_],[]=>rw [hx,ht] at h;exact h.elim
    | [_,_],[_]=>rw [hx,ht] at h;exact h.elim
    | [_,_],_::_::_::_=>rw [hx,ht] at h;exact h.elim
   case len =>
    unfold aLenL at h
    match hx:args.toList,ht:argTypes.toList with
    | [x],[t] =>
      rw [hx,ht] at h
      simp only [List.map_cons,List.map_nil] at h
      have ea:args= #[x]:=by rw [← Array.toArray_toList (xs:=args),hx]
      have et:argTypes= #[t]:=by rw [← Array.toArray_toList (xs:=argTypes),ht]
      subst ea et
      exact hblt _ (fun _=>rfl) (quiet (by simpa using len_sound hI (ty:=type) h (hev x)))
    | [],_=>rw [hx] at h;exact h.elim
    | _::_::_,_=>rw [hx] at h;exact h.elim
    | [_],[]=>rw [hx,ht] at h;exact h.elim
    | [_],_::_::_=>rw [hx,ht] at h;exact h.elim
   case max=>exact hblt _ (fun _=>rfl) (quiet (by rw [← hea];exact max_sound h hargs argTypes type))
   case min=>exact hblt _ (fun _=>rfl) (quiet (by rw [← hea];exact min_sound h hargs argTypes type))
end
end Go.Proofs.YtnbjogilidfkdaaGreat

/- Regions: operations in the text's order; operations in an order that is drawn. -/
namespace Go.Proofs.YtnbjogilidfkdaaGreat
set_option maxRecDepth 100000
set_option linter.unusedVariables false
set_option linter.unusedSimpArgs false
open Go.RowKit
structure AS where
 tmp:Nat→PV
 mem:Mem
 nx:Nat
def evT (tmp:Nat→PV):Operand→PV
 | .tmp t=>tmp t
 | .const v=>pvOf v
 | .global _=> .undef
 | .func f=> .clo f []
def putT (tmp:Nat→PV) (dst:Option Tmp) (r:PV):Nat→PV:=match dst with
 | some d=>upd tmp d r
 | none=>tmp
def gdst (all:List Oper) (j:Nat):Option Tmp:=(all[j]?).bind (·.dst)
def aG (all:List Oper) (tmp:Nat→PV) (g:Option (Nat×Bool)) (p q:Prop):Prop :=
 match g with
 | none=>p
 | some (j,want)=>match gdst all j with
   | some d=>(match tmp d with
     | .bool b=>(b=want→p)∧(b≠want→q)
     | .tup []=>q
     | _=>False)
   | none=>False
def arun (P:Program) (Γ:Ctr) (all:List Oper):List Oper→AS→(AS→Prop)→Prop
 | [],σ,K=>K σ
 | o::rest,σ,K=>aG all σ.tmp o.guard (aop P Γ (evT σ.tmp) o.op σ.mem σ.nx fun r m n=>arun P Γ all rest ⟨putT σ.tmp o.dst r,m,n⟩ K) (arun P Γ all rest ⟨putT σ.tmp o.dst (.tup []),σ.mem,σ.nx⟩ K)
section
variable {P:Program}
/-- The frame and the world, as the abstract state has them. -/
def Inv (c0:Cx) (mem0:Mem) (n0 N:Nat) (σ:AS) (a:Act) (w:World):Prop :=
 ∃ c,c.w=w∧Step c0 mem0 n0 c σ.mem σ.nx∧(∀ j,Rep (σ.tmp j) c (a.tmps.getD j undef))∧a.tmps.size=N∧a.defers=[]
theorem rep_evT {c:Cx} {tmp:Nat→PV} {a:Act} (h: ∀ j,Rep (tmp j) c (a.tmps.getD j undef)): ∀ x,Rep (evT tmp x) c (a.eval x)
 | .tmp t=>h t
 | .const v=>rep_pvOf c v
 | .global _=>by unfold evT Rep;trivial
 | .func f=>by unfold evT Rep;exact ⟨#[],rfl,by simp [RepL.nil_iff]⟩
theorem getD_put {a:Act} {d j:Nat} {v:Value} (hd:d<a.tmps.size):(a.put (some d) v).tmps.getD j undef=if j=d then v else a.tmps.getD j undef:=by
 simp only [Act.put,Array.getD_eq_getD_getElem?,Array.getElem?_setIfInBounds]
 by_cases e:d=j
 · subst e;simp [hd]
 · rw [if_neg e,if_neg (fun e'=>e e'.symm)]
theorem rep_put {c c':Cx} {tmp:Nat→PV} {a:Act} {N:Nat} (h: ∀ j,Rep (tmp j) c (a.tmps.getD j undef)) (hle:c.Le c') (hN:a.tmps.size=N) {dst:Option Tmp} (hd: ∀ d,dst=some d→d<N) {r:PV} {v:Value} (hr:Rep r c' v) :
 (∀ j,Rep (putT tmp dst r j) c' ((a.put dst v).tmps.getD j undef))∧(a.put dst v).tmps.size=N:=by
 cases dst with
 | none=>exact ⟨fun j=>Rep.mono _ hle (h j),hN⟩
 | some d =>
   have hlt:=hd d rfl
   refine ⟨fun j=>?_,by simp [Act.put,hN]⟩
   rw [getD_put (a:=a) (d:=d) (by rw [hN];exact hlt)]
   simp only [putT,upd]
   split
   · exact hr
   · exact Rep.mono _ hle (h j)
theorem rep_skip (c:Cx):Rep (.tup []) c undef:=by unfold Rep;exact ⟨#[],rfl,by simp [RepL.nil_iff]⟩
theorem yielded_none {ops:Array Oper} {a:Act} {c:Cx} {tmp:Nat→PV} {j d:Nat} (hg:gdst ops.toList j=some d) (h: ∀ j,Rep (tmp j) c (a.tmps.getD j undef)) (ht:tmp d= .tup []):yielded ops a.tmps j=none:=by
 have hr:=h d
 rw [ht] at hr
 unfold Rep at hr
 obtain ⟨vs,hv,_⟩:=hr
 have hd:(ops[j]?).bind (·.dst)=some d:=by simpa [gdst] using hg
 unfold yielded
 rw [hd]
 simp only [Option.bind_some]
 cases hq:a.tmps[d]? with
 | none=>rfl
 | some x =>
   rw [Array.getD_eq_getD_getElem?,hq] at hv
   simp only [Option.getD_some] at hv
   rw [hv]
theorem yielded_of {ops:Array Oper} {a:Act} {c:Cx} {tmp:Nat→PV} {j d:Nat} {b:Bool} (hg:gdst ops.toList j=some d) (h: ∀ j,Rep (tmp j) c (a.tmps.getD j undef)) (ht:tmp d= .bool b):yielded ops a.tmps j=some b:=by
 have hr:=h d
 rw [ht] at hr
 unfold Rep at hr
 have hd:(ops[j]?).bind (·.dst)=some d:=by simpa [gdst] using hg
 have hx:a.tmps[d]?=some (.bool b):=by
  cases hq:a.tmps[d]? with
  | none=>rw [Array.getD_eq_getD_getElem?,hq] at hr;cases hr
  | some x=>rw [Array.getD_eq_getD_getElem?,hq] at hr;simp at hr;rw [hr]
 simp [yielded,hd,hx]
theorem arun_sound {Γ:Ctr} (hΓ: ∀ f C,Γ f=some C→ACok P f C) {c0:Cx} {mem0:Mem} {n0 N:Nat} {ops:Array Oper} (hN: ∀ (i:Nat) (o:Oper),ops[i]?=some o→ ∀ d,o.dst=some d→d<N) {Q:Exit→Act→World→Prop} {K:AS→Prop}
 (hK: ∀ σ a w,K σ→Inv c0 mem0 n0 N σ a w→Q .normal a w): ∀ (rest:List Oper) (k:Nat) (σ:AS) (a:Act) (w:World),ops.toList.drop k=rest→arun P Γ ops.toList rest σ K→Inv c0 mem0 n0 N σ a w →
 wpOps P ops Q (List.range' k rest.length) a w
 | [],k,σ,a,w,_,h,hI=>by
   simp only [List.length_nil,List.range'_zero,wpOps]
   exact hK σ a w h hI
 | o::rest,k,σ,a,w,hd,h,hI=>by
   have hk:ops[k]?=some o:=by
    have:=congrArg (·[0]?) hd
    simpa [List.getElem?_drop] using this
   have hd':ops.toList.drop (k+1)=rest:=by
    have:=congrArg List.tail hd
    simpa using this
   obtain ⟨c,rfl,hst,hrep,hsz,hdf⟩:=hI
   simp only [List.length_cons,List.range'_succ,wpOps,hk]
   simp only [arun] at h
   have hop:(aop P Γ (evT σ.tmp) o.op σ.mem σ.nx fun r m n=>arun P Γ ops.toList rest ⟨putT σ.tmp o.dst r,m,n⟩ K)→o.wp P a c.w (wpOps P ops Q (List.range' (k+1) rest.length)) Q:=by
    intro h
    refine op_sound hΓ h (rep_evT hrep) hst.inv hst.free (fun r c' m n v h1 h2 h3=>?_)
    obtain ⟨g1,g2⟩:=rep_put hrep h2.le hsz (hN k o hk) h3
    exact arun_sound hΓ hN hK rest (k+1) _ _ _ hd' h1 ⟨c',rfl,hst.trans h2,g1,g2,by cases o.dst<;>exact hdf⟩
   have hskip:arun P Γ ops.toList rest ⟨putT σ.tmp o.dst (.tup []),σ.mem,σ.nx⟩ K→wpOps P ops Q (List.range' (k+1) rest.length) (a.put o.dst undef) c.w:=by
    intro h
    obtain ⟨g1,g2⟩:=rep_put (r:= .tup []) (v:=undef) hrep (.refl c) hsz (hN k o hk) (rep_skip c)
    exact arun_sound hΓ hN hK rest (k+1) _ _ _ hd' h ⟨c,rfl,hst,g1,g2,by cases o.dst<;>exact hdf⟩
   unfold aG at h
   cases hg:o.guard with
   | none =>
     rw [hg] at h
     have hw:Region.wanted o (yielded ops a.tmps)=true:=by simp [Region.wanted,hg]
     rw [if_pos hw]
     exact .inl (hop h)
   | some q =>
     obtain ⟨j,want⟩:=q
     rw [hg] at h
     simp only at h
     cases hgd:gdst ops.toList j with
     | none=>rw [hgd] at h;exact h.elim
     | some d =>
       rw [hgd] at h
       simp only at h
       cases ht:σ.tmp d with
       | bool b =>
         rw [ht] at h
         simp only at h
         have hy:=yielded_of hgd hrep ht
         by_cases hb:b=want
         · have hw:Region.wanted o (yielded ops a.tmps)=true:=by simp [Region.wanted,hg,hy,hb]
           rw [if_pos hw]
           exact .inl (hop (h.1 hb))
         · have hw:Region.wanted o (yielded ops a.tmps)=false:=by simp [Region.wanted,hg,hy,hb]
           rw [hw]
           exact hskip (h.2 hb)
       | tup xs =>
         rw [ht] at h
         cases xs with
         | nil =>
           have hy:=yielded_none hgd hrep ht
           have hw:Region.wanted o (yielded ops a.tmps)=false:=by simp [Region.wanted,hg,hy]
           rw [hw]
           exact hskip h
         | cons _ _=>exact h.elim
       | _=>rw [ht] at h;exact h.elim
/-- The operation comes to one value, whatever is asked of it. -/
def Fun (f:(PV→Prop)→Prop):Prop:= ∀ K,f K→ ∃ r,K r∧ ∀ K',K' r→f K'
theorem Fun.mono {f:(PV→Prop)→Prop} (h:Fun f) {K K':PV→Prop} (hk: ∀ r,K r→K' r) (hf:f K):f K':=by
 obtain ⟨r,h1,h2⟩:=h K hf
 exact h2 K' (hk r h1)
/-- Contracts of functions that only compute. -/
abbrev PC:=List PV→(PV→Prop)→Prop
structure PureOk (P:Program) (f:FuncId) (R:PC):Prop where
 fn: ∃ fn,P.funcs[f]?=some fn∧fn.body.isNone=false∧(fn.name == "runtime.NumGoroutine")=false
 fun_: ∀ args,Fun (R args)
 run: ∀ (c:Cx) (args:List PV) (vs:List Value) (K:PV→Prop),FzOk c→RepL args c.data vs→R args K →
  Calls P f vs.toArray c.w (fun e w'=> ∃ v r,e= .returned v∧K r∧Below c.w.heap.size c.w w'∧Rep r ⟨w',fun b=>c.fz b∨c.w.heap.size≤b∧b<w'.heap.size,fun _=>none⟩ v)
abbrev PCtr:=FuncId→Option PC
def pureC (R:PC):AC:=fun args mem n K=>nmbL 0 (args.map (res mem))=true∧R (args.map (res mem)) fun r=>K r (frz mem (args.flatMap owns)) n
def Γof (G:PCtr):Ctr:=fun f=>(G f).map pureC
theorem pure_ok {f:FuncId} {R:PC} (h:PureOk P f R):ACok P f (pureC R):=by
 refine ⟨h.fn,fun c mem n args vs K hI hn hr hC=>?_⟩
 obtain ⟨hsc,hR⟩:=hC
 obtain ⟨c1,w1,r1,st⟩:=Step.frz (args.flatMap owns) hI hn
 have hr1:RepL (args.map (res mem)) c1 vs:=repL_map _ (fun u hu v hv=>rep_res st.inv (fun i hi es=>frz_fits mem _ i (by simp only [List.mem_flatMap];exact ⟨u,hu,hi⟩) es) hv) (RepL.mono _ st.le hr)
 have:=h.run c1 _ vs _ st.inv.1 (hr1.to_data hsc) hR
 rw [w1] at this
 refine this.mono ?_
 rintro e w' ⟨v,r,rfl,hK,hb,hrep⟩
 have hb1:Below c1.w.heap.size c1.w w':=by rw [w1];exact hb
 let c2:Cx:=⟨w',fun b=>c1.fz b∨c.w.heap.size≤b∧b<w'.heap.size,c1.ρ⟩
 have st2:Step c1 (frz mem (args.flatMap owns)) n c2 (frz mem (args.flatMap owns)) n:=Step.later st.inv st.free rfl (fun _ h=> .inl h) hb1 (fun b hb=>hb.imp (fun x=>x) (fun x=>by rw [w1];exact x))
 refine ⟨v,r,c2,_,n,rfl,rfl,hK,st.trans st2,Rep.mono _ ?_ hrep⟩
 exact ⟨fun _ h=>h,fun _ _ _=>rfl,fun _ _ h=>by cases h⟩
def isFro (mem:Mem) (i:Nat):Bool:=match mem i with
 | some (.fro _)=>true
 | _=>false
def aCallC (P:Program) (G:PCtr) (ev:Operand→PV) (cl:Call) (mem:Mem) (K:PV→Prop):Prop :=
 match cl.callee with
 | .builtin .len=>aLenL P mem (cl.args.toList.map ev) cl.argTypes.toList K
 | .builtin .max=>aMax max (cl.args.toList.map ev) K
 | .builtin .min=>aMax min (cl.args.toList.map ev) K
 | .value f=>(match ev f with
   | .clo g []=>(match G g with
     | some R=>((cl.args.toList.map ev).flatMap owns).all (isFro mem)=true∧nmbL 0 ((cl.args.toList.map ev).map (res mem))=true∧R ((cl.args.toList.map ev).map (res mem)) K
     | none=>False)
   | _=>False)
 | _=>False
def aSliceC (P:Program) (t:TypeId) (mem:Mem) (x:PV) (lo hi:Option PV) (K:PV→Prop):Prop :=
 match x with
 | .str _=>aSlice P t mem 0 x lo hi fun r _ _=>K r
 | .seq _=>aSlice P t mem 0 x lo hi fun r _ _=>K r
 | _=>False
def aopc (P:Program) (G:PCtr) (ev:Operand→PV) (op:Op) (mem:Mem) (K:PV→Prop):Prop :=
 match op with
 | .move x=>K (ev x)
 | .assign x=>K (ev x)
 | .pick c a b=>aPick (ev c) (ev a) (ev b) K
 | .build t ps=>aBuild P t (ps.toList.map fun p=>(p.1,ev p.2)) K
 | .load t a=>aLoad P t mem (ev a) K
 | .nilCheck x=>aNil (ev x) K
 | .binOp op t x y _=>aBin' P op t (ev x) (ev y) K
 | .unOp op _ x=>aUn op (ev x) K
 | .convert s d x=>aConv P s d mem (ev x) K
 | .slice t x lo hi none=>aSliceC P t mem (ev x) (lo.map ev) (hi.map ev) K
 | .fieldAddr t x f=>aFld P t f (ev x) K
 | .field t x f=>aField P t (ev x) f K
 | .indexAddr t x ix=>aIdx P t mem (ev x) (ev ix) K
 | .index t x ix=>aIndex P t (ev x) (ev ix) K
 | .extract x i=>aExtract (ev x) i K
 | .call cl=>aCallC P G ev cl mem K
 | _=>False
theorem frz_all_fro {mem:Mem}: ∀ {is:List Nat},is.all (isFro mem)=true→frz mem is=mem
 | [],_=>rfl
 | i::is,h=>by
   simp only [List.all_cons,Bool.and_eq_true] at h
   have h1:frz1 mem i=mem:=by
    unfold frz1
    unfold isFro at h
    cases hm:mem i with
    | none=>rfl
    | some mb=>rw [hm] at h;cases mb<;>first|rfl|(exact absurd h.1 (by simp))
   show frz (frz1 mem i) is=mem
   rw [h1]
   exact frz_all_fro h.2
/-- A calm operation is an operation that leaves the named memory as it is. -/
theorem aop_of_calm {G:PCtr} {ev:Operand→PV} {op:Op} {mem:Mem} {n:Nat} {K:PV→Prop} (h:aopc P G ev op mem K):aop P (Γof G) ev op mem n fun r m k=>K r∧m=mem∧k=n:=by
 have triv: ∀ {f:(PV→Prop)→Prop},f K→(∀ K',(∀ r,K r→K' r)→f K')→f (fun r=>K r∧mem=mem∧n=n):=fun _ hm=>hm _ fun r hr=>⟨hr,rfl,rfl⟩
 have ek:(fun r=>K r∧mem=mem∧n=n)=K:=by funext r;simp
 cases op<;>simp only [aopc] at h<;>(try exact h.elim)<;>(try (simp only [aop,and_true];exact h))
 case convert s d x=>exact convX_of h
 case slice t x lo hi mx =>
  cases mx<;>simp only [aopc] at h<;>(try exact h.elim)
  simp only [aop]
  unfold aSliceC at h
  cases hx:ev x<;>rw [hx] at h<;>simp only at h<;>(try exact h.elim)
  all_goals
   unfold aSlice at h ⊢
   simpa using h
 case call cl =>
  obtain ⟨callee,args,argTypes⟩:=cl
  unfold aCallC at h
  simp only [aop]
  unfold aCall
  cases callee<;>simp only at h ⊢ <;>(try exact h.elim)
  case value f =>
   cases hc:ev f with
   | clo g caps =>
     rw [hc] at h
     cases caps with
     | cons _ _=>exact h.elim
     | nil =>
       simp only at h ⊢
       cases hg:G g with
       | none=>rw [hg] at h;exact h.elim
       | some R =>
         rw [hg] at h
         obtain ⟨h1,h2,h3⟩:=h
         simp only [Γof,hg,Option.map_some,List.append_nil,pureC]
         rw [frz_all_fro h1]
         exact ⟨h2,by simpa using h3⟩
   | _=>rw [hc] at h;exact h.elim
  case builtin b =>
   cases b<;>simp only at h ⊢ <;>(try exact h.elim)
   all_goals (simp only [and_true];exact h)
theorem fun_pick (t a b:PV):Fun (aPick t a b):=by
 intro K h
 unfold aPick at *
 cases t with
 | bool x=>cases x with
   | true=>exact ⟨a,h.1 rfl,fun K' hk=>⟨fun _=>hk,fun h=>by cases h⟩⟩
   | false=>exact ⟨b,h.2 rfl,fun K' hk=>⟨fun h=>(by cases h),fun _=>hk⟩⟩
 | _=>exact h.elim
theorem fun_nil (x:PV):Fun (aNil x):=by
 intro K h
 unfold aNil at *
 cases x<;>first|exact h.elim|exact ⟨_,h,fun _ h=>h⟩
theorem fun_build (t:TypeId) (ps:List (Nat×PV)):Fun (aBuild P t ps):=by
 intro K h
 unfold aBuild at *
 split at h
 · split at h
   · exact ⟨_,h,fun _ h=>h⟩
   · exact h.elim
 · exact h.elim
theorem fun_load (t:TypeId) (mem:Mem) (p:PV):Fun (aLoad P t mem p):=by
 intro K h
 unfold aLoad at *
 split at h
 · split at h
   · exact ⟨_,h,fun _ h=>h⟩
   · exact h.elim
 · split at h
   · exact ⟨_,h.2,fun _ h'=>⟨h.1,h'⟩⟩
   · exact h.elim
 · exact h.elim
theorem fun_un (op:UnOp) (x:PV):Fun (aUn op x):=by
 intro K h
 unfold aUn at *
 split at h
 · exact ⟨_,h,fun _ h=>h⟩
 · exact ⟨_,h.2,fun _ h'=>⟨h.1,h'⟩⟩
 · exact h.elim
theorem fun_bin0 (op:BinOp) (t:TypeId) (x y:PV):Fun (aBin P op t x y):=by
 intro K h
 unfold aBin at *
 split at h<;>first
  | exact h.elim
  | exact ⟨_,h,fun _ h=>h⟩
  | exact ⟨_,h.2,fun _ h'=>⟨h.1,h'⟩⟩
  | exact ⟨_,h.2.2,fun _ h'=>⟨h.1,h.2.1,h'⟩⟩
  | exact ⟨_,h.2.2.2,fun _ h'=>⟨h.1,h.2.1,h.2.2.1,h'⟩⟩
  | exact ⟨_,h.2.2.2.2,fun _ h'=>⟨h.1,h.2.1,h.2.2.1,h.2.2.2.1,h'⟩⟩
  | exact ⟨_,h.2.2.2.2.2,fun _ h'=>⟨h.1,h.2.1,h.2.2.1,h.2.2.2.1,h.2.2.2.2.1,h'⟩⟩
  | exact ⟨_,h.2.2.2.2.2.2,fun _ h'=>⟨h.1,h.2.1,h.2.2.1,h.2.2.2.1,h.2.2.2.2.1,h.2.2.2.2.2.1,h'⟩⟩
theorem fun_bin (op:BinOp) (t:TypeId) (x y:PV):Fun (aBin' P op t x y):=by
 intro K h
 unfold aBin' at *
 split at h
 · split at h
   · split at h
     · exact ⟨_,h,fun _ h=>h⟩
     · exact h.elim
   · exact h.elim
 · split at h
   · split at h
     · exact ⟨_,h,fun _ h=>h⟩
     · exact h.elim
   · exact h.elim
 · exact fun_bin0 _ _ _ _ K h
theorem fun_conv (s d:TypeId) (mem:Mem) (x:PV):Fun (aConv P s d mem x):=by
 intro K h
 unfold aConv aConvInt at *
 split at h
 · split at h
   · exact ⟨_,h.2,fun _ h'=>⟨h.1,h'⟩⟩
   · exact h.elim
 · split at h
   · exact ⟨_,h,fun _ h'=>h'⟩
   · exact h.elim
 · split at h
   · exact ⟨_,h.2,fun _ h'=>⟨h.1,h'⟩⟩
   · exact h.elim
 · split at h
   · exact ⟨_,h,fun _ h'=>h'⟩
   · obtain ⟨l,e,h⟩:=h;exact ⟨_,h,fun _ h'=>⟨l,e,h'⟩⟩
   · split at h
     · obtain ⟨e1,e2,l,e,h⟩:=h;exact ⟨_,h,fun _ h'=>⟨e1,e2,l,e,h'⟩⟩
     · obtain ⟨l,e,h⟩:=h;exact ⟨_,h,fun _ h'=>⟨l,e,h'⟩⟩
     · exact h.elim
   · exact h.elim
 · exact h.elim
theorem fun_fld (s:TypeId) (f:Nat) (p:PV):Fun (aFld P s f p):=by
 intro K h
 unfold aFld at *
 split at h
 · split at h<;>first|exact h.elim|exact ⟨_,h,fun _ h=>h⟩
 · exact h.elim
theorem fun_field (s:TypeId) (p:PV) (f:Nat):Fun (aField P s p f):=by
 intro K h
 unfold aField at *
 split at h
 · split at h<;>first|exact h.elim|exact ⟨_,h,fun _ h=>h⟩
 · exact h.elim
theorem fun_idx (t:TypeId) (mem:Mem) (x ix:PV):Fun (aIdx P t mem x ix):=by
 intro K h
 unfold aIdx at *
 split at h
 · obtain ⟨h0,h⟩:=h
   split at h
   · obtain ⟨y,e1,e2,h⟩:=h;exact ⟨_,h,fun _ h'=>⟨h0,y,e1,e2,h'⟩⟩
   · split at h
     · obtain ⟨e1,e2,h⟩:=h;exact ⟨_,h,fun _ h'=>⟨h0,e1,e2,h'⟩⟩
     · obtain ⟨y,e1,e2,h⟩:=h;exact ⟨_,h,fun _ h'=>⟨h0,y,e1,e2,h'⟩⟩
     · exact h.elim
   · exact h.elim
 · exact h.elim
theorem fun_index (t:TypeId) (x ix:PV):Fun (aIndex P t x ix):=by
 intro K h
 unfold aIndex at *
 split at h
 · obtain ⟨e0,e1,e2,h⟩:=h;exact ⟨_,h,fun _ h'=>⟨e0,e1,e2,h'⟩⟩
 · exact h.elim
theorem fun_extract (x:PV) (i:Nat):Fun (aExtract x i):=by
 intro K h
 unfold aExtract at *
 split at h
 · split at h<;>first|exact h.elim|exact ⟨_,h,fun _ h=>h⟩
 · exact h.elim
theorem fun_slice (t:TypeId) (mem:Mem) (x:PV) (lo hi:Option PV):Fun (aSliceC P t mem x lo hi):=by
 intro K h
 unfold aSliceC at *
 split at h<;>(try exact h.elim)
 all_goals
  unfold aSlice at *
  obtain ⟨e0,h⟩:=h
  simp only
  split at h<;>(try exact h.elim)
 · obtain ⟨e1,e2,e3,h⟩:=h;exact ⟨_,h,fun _ h'=>⟨e0,e1,e2,e3,h'⟩⟩
 · obtain ⟨e1,e2,e3,e4,h⟩:=h;exact ⟨_,h,fun _ h'=>⟨e0,e1,e2,e3,e4,h'⟩⟩
theorem fun_len (t:TypeId) (mem:Mem) (x:PV):Fun (aLen P t mem x):=by
 intro K h
 unfold aLen at *
 split at h
 · exact ⟨_,h.2,fun _ h'=>⟨h.1,h'⟩⟩
 · exact ⟨_,h.2,fun _ h'=>⟨h.1,h'⟩⟩
 · exact ⟨_,h.2,fun _ h'=>⟨h.1,h'⟩⟩
 · obtain ⟨e0,h⟩:=h
   split at h<;>first|exact h.elim|exact ⟨_,h,fun _ h'=>⟨e0,h'⟩⟩
 · exact ⟨_,h.2,fun _ h'=>⟨h.1,h'⟩⟩
 · exact h.elim
theorem fun_max (f:Int→Int→Int) (xs:List PV):Fun (aMax f xs):=by
 intro K h
 unfold aMax at *
 split at h<;>first|exact h.elim|exact ⟨_,h,fun _ h=>h⟩
theorem fun_callC {G:PCtr} (hG: ∀ f R,G f=some R→PureOk P f R) (ev:Operand→PV) (cl:Call) (mem:Mem):Fun (aCallC P G ev cl mem):=by
 intro K h
 unfold aCallC at *
 split at h
 · unfold aLenL at *
   split at h
   · exact fun_len _ _ _ K h
   · exact h.elim
 · exact fun_max _ _ K h
 · exact fun_max _ _ K h
 · split at h
   · split at h
     · rename_i R hg
       obtain ⟨e1,e2,h⟩:=h
       obtain ⟨r,h1,h2⟩:=(hG _ _ hg).fun_ _ K h
       exact ⟨r,h1,fun K' hk=>⟨e1,e2,h2 K' hk⟩⟩
     · exact h.elim
   · exact h.elim
 · exact h.elim
theorem fun_opc {G:PCtr} (hG: ∀ f R,G f=some R→PureOk P f R) (ev:Operand→PV) (op:Op) (mem:Mem):Fun (aopc P G ev op mem):=by
 intro K h
 cases op<;>simp only [aopc] at h<;>(try exact h.elim)
 case move x=>exact ⟨_,h,fun _ h=>h⟩
 case assign x=>exact ⟨_,h,fun _ h=>h⟩
 case pick t a b=>exact fun_pick _ _ _ K h
 case build t ps=>exact fun_build _ _ K h
 case load t a=>exact fun_load _ _ _ K h
 case nilCheck x=>exact fun_nil _ K h
 case binOp op t x y _=>exact fun_bin _ _ _ _ K h
 case unOp op _ x=>exact fun_un _ _ K h
 case convert s d x=>exact fun_conv _ _ _ _ K h
 case slice t x lo hi mx =>
  cases mx with
  | none=>exact fun_slice _ _ _ _ _ K h
  | some _=>exact h.elim
 case fieldAddr t x f=>exact fun_fld _ _ _ K h
 case field t x f=>exact fun_field _ _ _ K h
 case indexAddr t x ix=>exact fun_idx _ _ _ _ K h
 case index t x ix=>exact fun_index _ _ _ K h
 case extract x i=>exact fun_extract _ _ K h
 case call cl=>exact fun_callC hG _ _ _ K h
end
end Go.Proofs.YtnbjogilidfkdaaGreat
