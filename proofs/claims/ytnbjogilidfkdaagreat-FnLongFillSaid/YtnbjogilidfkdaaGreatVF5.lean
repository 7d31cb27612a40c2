/- Abstract operations: new variables, addresses, indexes, cuts, conversions, operators, and that the model's operations do what they say. -/
import Derived.Test.YtnbjogilidfkdaaGreatVF4
import Derived.Laws.StructEq
import Derived.Laws.IdiomStrings
import Derived.Lib.ConvBytes
import Derived.Lib.FrozenHead
import Derived.Lib.UnsafeStr

namespace Go.Proofs.YtnbjogilidfkdaaGreat
set_option maxRecDepth 100000
set_option linter.unusedVariables false
set_option linter.unusedSimpArgs false
open Go.RowKit
section
variable {P:Program}
/-- What an operation comes to. -/
def Out (P:Program) (s:Sem Value) (c:Cx) (mem:Mem) (n:Nat) (K:PV→Mem→Nat→Prop):Prop :=
 ∃ v r c' mem' n',s.run P c.w= .ok v c'.w∧K r mem' n'∧Step c mem n c' mem' n'∧Rep r c' v
theorem Out.here {s:Sem Value} {c:Cx} {mem:Mem} {n:Nat} {K:PV→Mem→Nat→Prop} {v:Value} {r:PV} (hI:InvM c mem) (hn:Names c n) (h:s.run P c.w= .ok v c.w) (hr:Rep r c v) (hK:K r mem n):Out P s c mem n K :=
 ⟨v,r,c,mem,n,h,hK,.refl hI hn,hr⟩
theorem new_box {c:Cx} {mem:Mem} {n:Nat} (hI:InvM c mem) (hn:Names c n) (t:TypeId) {us:List PV} {vs:List Value} (hr:RepL us c vs) :
 ∃ c',c'.w=c.w.alloc (.cells vs.toArray t)∧Step c mem n c' (upd mem n (some (.box us))) (n+1)∧Rep (.ref n 0) c' (.pointer (some ⟨c.w.heap.size,0,none⟩)):=by
 have hmn:mem n=none:=by
  cases hm:mem n with
  | none=>rfl
  | some mb =>
    obtain ⟨_,S,h1,_,_⟩:=hI
    obtain ⟨v,hv⟩:=(h1 n mb hm).ρ
    rw [hn.1 n (Nat.le_refl _)] at hv
    cases hv
 let c':Cx:=⟨c.w.alloc (.cells vs.toArray t),c.fz,upd c.ρ n (some (.pointer (some ⟨c.w.heap.size,0,none⟩)))⟩
 obtain ⟨h1,h2,h3⟩:=InvM.put (c:=c) (c':=c') (mem:=mem) (mem':=upd mem n (some (.box us))) (j:=n) (S':=(· =c.w.heap.size)) hI none rfl (fun k hk=>upd_other _ _ hk) (.inl (hn.1 n (Nat.le_refl _)))
  (upd_same _ _ _) (fun k hk=> .inl (upd_other _ _ hk)) (fun _ h=>by cases h) (.inr hmn) (by simp [c'])
  (fun b hb _=>heap_alloc_lt _ _ hb) (fun hle=>⟨c.w.heap.size,t,vs.toArray,upd_same _ _ _,Blk.new _ _ _ rfl,RepL.mono _ hle (by simpa using hr),rfl⟩)
  (fun b hb=> .inr (Nat.le_of_eq (Eq.symm hb)))
 refine ⟨c',rfl,⟨h1,h2,rfl,rfl,rfl,by simp [c'],fun b hb _=>heap_alloc_lt _ _ hb,h3,fun _ h=> .inl h,by omega,fun i hi=>upd_other _ _ (by omega),fun i hi=>?_,fun i v hi=>?_⟩,?_⟩
 · show upd c.ρ n _ i=none
   rw [upd_other _ _ (by omega)]
   exact hn.1 i (by omega)
 · by_cases e:i=n
   · subst e
     have:upd c.ρ i (some (Value.pointer (some ⟨c.w.heap.size,0,none⟩))) i=some v:=hi
     rw [upd_same] at this
     cases this
     rfl
   · have:upd c.ρ n (some (Value.pointer (some ⟨c.w.heap.size,0,none⟩))) i=some v:=hi
     rw [upd_other _ _ e] at this
     exact hn.2 i v this
 · unfold Rep
   exact ⟨_,_,upd_same _ _ _,rfl,rfl⟩
theorem ownsRowF_block {w w':World} {e:TypeId} {s n:Nat} {v:Value} {xs:List Value} (h:w.ownsRowF 0 e s v n xs)
 (hb: ∀ b,v.ownBlock=some b→w'.heap[b]?=w.heap[b]?):w'.ownsRowF 0 e s v n xs:=by
 obtain ⟨h1,h2⟩:=h
 refine ⟨h1,?_⟩
 rcases h2 with h2|⟨g,cap,cur,fz,hv,hg,hh,r⟩
 · exact .inl h2
 · refine .inr ⟨g,cap,cur,fz,hv,hg,?_,r⟩
   rw [hb g (by subst hv;rfl)];exact hh
/-- A strings.Builder of one's own that holds these bytes. -/
def bldP (T E:TypeId):OwnP where
 R d w v S:= ∃ l b buf p,d=[.str l]∧v= .pointer (some ⟨b,0,none⟩)∧w.heap[b]?=some (.cells #[p,buf] T (0,0))∧(p= .pointer none∨p= .pointer (some ⟨b,0,none⟩))∧w.ownsRow 0 E 1 buf l.length (Lib.byteCells l)∧buf.ownBlock≠some b∧S=fun k=>k=b∨buf.ownBlock=some k
 mono:=by
  rintro d w w' v S ⟨l,b,buf,p,hd,h1,h2,h3,h4,h5,rfl⟩ hb
  exact ⟨l,b,buf,p,hd,h1,(hb b (.inl rfl)).trans h2,h3,ownsRow_block h4 (fun k hk=>hb k (.inr hk)),h5,rfl⟩
 lt:=by
  rintro d w v S k ⟨l,b,buf,p,hd,h1,h2,h3,h4,h5,rfl⟩ hk
  rcases hk with rfl|hk
  · exact (Array.getElem?_eq_some_iff.1 h2).1
  · exact (h4.lt k hk).2
 det:=by
  rintro d w v S S' ⟨l,b,buf,p,hd,h1,h2,h3,h4,h5,rfl⟩ ⟨l',b',buf',p',hd',h1',h2',h3',h4',h5',rfl⟩
  subst h1
  simp only [Value.pointer.injEq,Option.some.injEq,Addr.mk.injEq,and_true] at h1'
  subst h1'
  rw [h2] at h2'
  simp only [Option.some.injEq,Obj.cells.injEq,Array.mk.injEq,List.cons.injEq,and_true] at h2'
  rw [h2'.2]
/-- .. that has been read. -/
def bldZ (T E:TypeId):OwnP where
 R d w v S:= ∃ l b buf p,d=[.str l]∧v= .pointer (some ⟨b,0,none⟩)∧w.heap[b]?=some (.cells #[p,buf] T (0,0))∧(p= .pointer none∨p= .pointer (some ⟨b,0,none⟩))∧w.ownsRowF 0 E 1 buf l.length (Lib.byteCells l)∧buf.ownBlock≠some b∧S=fun k=>k=b∨buf.ownBlock=some k
 mono:=by
  rintro d w w' v S ⟨l,b,buf,p,hd,h1,h2,h3,h4,h5,rfl⟩ hb
  exact ⟨l,b,buf,p,hd,h1,(hb b (.inl rfl)).trans h2,h3,ownsRowF_block h4 (fun k hk=>hb k (.inr hk)),h5,rfl⟩
 lt:=by
  rintro d w v S k ⟨l,b,buf,p,hd,h1,h2,h3,h4,h5,rfl⟩ hk
  rcases hk with rfl|hk
  · exact (Array.getElem?_eq_some_iff.1 h2).1
  · exact (h4.lt k hk).2
 det:=by
  rintro d w v S S' ⟨l,b,buf,p,hd,h1,h2,h3,h4,h5,rfl⟩ ⟨l',b',buf',p',hd',h1',h2',h3',h4',h5',rfl⟩
  subst h1
  simp only [Value.pointer.injEq,Option.some.injEq,Addr.mk.injEq,and_true] at h1'
  subst h1'
  rw [h2] at h2'
  simp only [Option.some.injEq,Obj.cells.injEq,Array.mk.injEq,List.cons.injEq,and_true] at h2'
  rw [h2'.2]
def bldT (P:Program) (t:TypeId):Option TypeId :=
 match P.underlying t with
 | some (.struct fs)=>(fs[1]?).bind fun fd=>(elOf P fd.type).map (·.1)
 | _=>none
def isBld:List PV→Bool
 | [.raw (.pointer none),.nil]=>true
 | _=>false
theorem isBld_iff {zs:List PV} (h:isBld zs=true):zs=[.raw (.pointer none),.nil]:=by
 unfold isBld at h
 split at h
 · rfl
 · cases h
def aAlloc (P:Program) (t:TypeId) (mem:Mem) (n:Nat) (K:PV→Mem→Nat→Prop):Prop :=
 match zeroOf P t with
 | some zs=>if isBld zs=true then (match bldT P t with
   | some E=>K (.ref n 0) (upd mem n (some (.gen (bldP t E) [.str []]))) (n+1)
   | none=>False) else K (.ref n 0) (upd mem n (some (.box zs))) (n+1)
 | none=>False
/-- A block of one's own. -/
theorem new_gen {c:Cx} {mem:Mem} {n:Nat} (hI:InvM c mem) (hn:Names c n) (o:Obj) (p:OwnP) (d:List PV) (hp:p.R d (c.w.alloc o) (.pointer (some ⟨c.w.heap.size,0,none⟩)) (· =c.w.heap.size)) :
 ∃ c',c'.w=c.w.alloc o∧Step c mem n c' (upd mem n (some (.gen p d))) (n+1)∧Rep (.ref n 0) c' (.pointer (some ⟨c.w.heap.size,0,none⟩)):=by
 have hmn:mem n=none:=by
  cases hm:mem n with
  | none=>rfl
  | some mb =>
    obtain ⟨_,S,h1,_,_⟩:=hI
    obtain ⟨v,hv⟩:=(h1 n mb hm).ρ
    rw [hn.1 n (Nat.le_refl _)] at hv
    cases hv
 let c':Cx:=⟨c.w.alloc o,c.fz,upd c.ρ n (some (.pointer (some ⟨c.w.heap.size,0,none⟩)))⟩
 obtain ⟨h1,h2,h3⟩:=InvM.put (c:=c) (c':=c') (mem:=mem) (mem':=upd mem n (some (.gen p d))) (j:=n) (S':=(· =c.w.heap.size)) hI none rfl (fun k hk=>upd_other _ _ hk) (.inl (hn.1 n (Nat.le_refl _)))
  (upd_same _ _ _) (fun k hk=> .inl (upd_other _ _ hk)) (fun _ h=>by cases h) (.inr hmn) (by simp [c'])
  (fun b hb _=>heap_alloc_lt _ _ hb) (fun hle=>⟨_,upd_same _ _ _,hp⟩)
  (fun b hb=> .inr (Nat.le_of_eq (Eq.symm hb)))
 refine ⟨c',rfl,⟨h1,h2,rfl,rfl,rfl,by simp [c'],fun b hb _=>heap_alloc_lt _ _ hb,h3,fun _ h=> .inl h,by omega,fun i hi=>upd_other _ _ (by omega),fun i hi=>?_,fun i v hi=>?_⟩,?_⟩
 · show upd c.ρ n _ i=none
   rw [upd_other _ _ (by omega)]
   exact hn.1 i (by omega)
 · by_cases e:i=n
   · subst e
     have:upd c.ρ i (some (Value.pointer (some ⟨c.w.heap.size,0,none⟩))) i=some v:=hi
     rw [upd_same] at this
     cases this
     rfl
   · have:upd c.ρ n (some (Value.pointer (some ⟨c.w.heap.size,0,none⟩))) i=some v:=hi
     rw [upd_other _ _ e] at this
     exact hn.2 i v this
 · unfold Rep
   exact ⟨_,_,upd_same _ _ _,rfl,rfl⟩
theorem zeroOf_run {t:TypeId} {zs:List PV} (h:zeroOf P t=some zs) (w:World): ∃ z:Value,(zeroValue t).run P w= .ok z w∧zs=z.cells.toList.map pvOf∧(∀ x ∈ z.cells.toList,x.oneCell'=true)∧(sizeOf t).run P w= .ok z.cells.size w:=by
 unfold zeroOf at h
 cases hi:P.info? t with
 | none=>rw [hi] at h;cases h
 | some i =>
   rw [hi] at h
   simp only [Option.bind_some] at h
   cases hz:i.zero with
   | none=>rw [hz] at h;cases h
   | some z =>
     rw [hz] at h
     simp only [Bool.and_eq_true,decide_eq_true_eq,List.all_eq_true] at h
     split at h
     · rename_i hh
       simp only [Option.some.injEq] at h
       exact ⟨z,by simp [zeroValue,typeInfo,hi,hz],h.symm,hh.2,by simp [sizeOf,typeInfo,hi,hh.1]⟩
     · cases h
theorem alloc_sound {c:Cx} {mem:Mem} {n:Nat} {t:TypeId} {K:PV→Mem→Nat→Prop} (h:aAlloc P t mem n K) (hI:InvM c mem) (hn:Names c n):Out P (Instr.alloc t true (.tuple #[])) c mem n K:=by
 unfold aAlloc at h
 cases hz:zeroOf P t with
 | none=>rw [hz] at h;exact h.elim
 | some zs =>
   rw [hz] at h
   obtain ⟨z,hrun,rfl,_,_⟩:=zeroOf_run hz c.w
   dsimp only at h
   by_cases hb:isBld (z.cells.toList.map pvOf)=true
   · rw [if_pos hb] at h
     cases hE:bldT P t with
     | none=>rw [hE] at h;exact h.elim
     | some E =>
       rw [hE] at h
       have hzz:z.cells= #[.pointer none,.slice none 0 0]:=by
        have h1:=isBld_iff hb
        have h2: ∀ v,pvOf v= .raw (.pointer none)→v= .pointer none:=by
         intro v hv;unfold pvOf at hv;split at hv<;>first|exact PV.raw.inj hv|cases hv
        have h3: ∀ v,pvOf v= .nil→v= .slice none 0 0:=by
         intro v hv;unfold pvOf at hv;split at hv<;>first|rfl|cases hv
        obtain ⟨x,y,e1,e2,e3⟩: ∃ x y,z.cells.toList=[x,y]∧pvOf x= .raw (.pointer none)∧pvOf y= .nil:=by
         generalize z.cells.toList=zl at h1 ⊢
         match zl,h1 with
         | [x,y],h1=>exact ⟨x,y,rfl,(List.cons.inj h1).1,(List.cons.inj (List.cons.inj h1).2).1⟩
         | [],h1=>cases h1
         | [x],h1=>exact absurd (List.cons.inj h1).2 (by intro h;cases h)
         | _::_::_::_,h1=>exact absurd (List.cons.inj (List.cons.inj h1).2).2 (by intro h;cases h)
        rw [h2 x e2,h3 y e3] at e1
        apply Array.ext'
        rw [e1]
       obtain ⟨c',e,hs,hr⟩:=new_gen hI hn (.cells z.cells t) (bldP t E) [.str []] (by
        rw [hzz]
        refine ⟨[],c.w.heap.size,.slice none 0 0,.pointer none,rfl,rfl,heap_alloc_new c.w _,.inl rfl,World.ownsRow_nil _ _ _ _,by simp [Value.ownBlock],?_⟩
        funext k
        simp [Value.ownBlock])
       refine ⟨_,_,c',_,_,?_,h,hs,hr⟩
       rw [e]
       simp [Instr.alloc,hrun,newVar,newRow]
   · rw [if_neg hb] at h
     obtain ⟨c',e,hs,hr⟩:=new_box hI hn t (repL_pvOf c z.cells.toList)
     refine ⟨_,_,c',_,_,?_,h,hs,hr⟩
     rw [e]
     simp [Instr.alloc,hrun,newVar,newRow]
def aBox (mem:Mem) (n:Nat) (u:PV) (K:PV→Mem→Nat→Prop):Prop :=
 match cellsPV u with
 | some us=>K (.ref n 0) (upd mem n (some (.box us))) (n+1)
 | none=>False
theorem box_sound {c:Cx} {mem:Mem} {n:Nat} {t:TypeId} {u:PV} {v:Value} {K:PV→Mem→Nat→Prop} (h:aBox mem n u K) (hu:Rep u c v) (hI:InvM c mem) (hn:Names c n):Out P (Instr.box t v) c mem n K:=by
 unfold aBox at h
 cases hc:cellsPV u with
 | none=>rw [hc] at h;exact h.elim
 | some us =>
   rw [hc] at h
   obtain ⟨g1,_,_⟩:=cellsPV_sound hc hn.2 hu
   obtain ⟨c',e,hs,hr⟩:=new_box hI hn t g1
   refine ⟨_,_,c',_,_,?_,h,hs,hr⟩
   rw [e]
   simp [Instr.box,newVar,newRow]
def aFld (P:Program) (s:TypeId) (f:Nat) (p:PV) (K:PV→Prop):Prop :=
 match fldOf P s f with
 | some (off,_)=>(match p with
   | .ref i o=>K (.ref i (o+off))
   | .rref i k z o=>K (.rref i k z (o+off))
   | .eref cs=>K (.eref (cs.drop off))
   | _=>False)
 | none=>False
theorem fldOf_run {s:TypeId} {f off:Nat} {b:Bool} (h:fldOf P s f=some (off,b)): ∃ fs fd i,P.underlying s=some (.struct fs)∧fs[f]?=some fd∧fd.offset=off∧P.info? fd.type=some i∧i.size≠0 ∧
 (b=true→i.size=1∧ ∃ d,P.underlying fd.type=some d∧ ∀ w,(isAgg fd.type).run P w= .ok false w):=by
 unfold fldOf at h
 cases hu:P.underlying s with
 | none=>rw [hu] at h;cases h
 | some d =>
   rw [hu] at h
   cases d with
   | struct fs =>
     simp only at h
     cases hf:fs[f]? with
     | none=>rw [hf] at h;cases h
     | some fd =>
       rw [hf] at h
       simp only [Option.bind_some] at h
       cases hi:P.info? fd.type with
       | none=>rw [hi] at h;cases h
       | some i =>
         rw [hi] at h
         simp only [Option.bind_some] at h
         split at h
         · cases h
         · rename_i hz
           simp only [Option.some.injEq,Prod.mk.injEq,Bool.and_eq_true,beq_iff_eq] at h
           refine ⟨fs,fd,i,rfl,hf,h.1,hi,hz,fun hb=>?_⟩
           have h2:=h.2
           rw [hb] at h2
           simp only [Bool.and_eq_true,beq_iff_eq,Bool.not_eq_true'] at h2
           refine ⟨h2.1,?_⟩
           cases hd:P.underlying fd.type with
           | none=>rw [hd] at h2;cases h2.2
           | some d =>
             rw [hd] at h2
             refine ⟨d,rfl,fun w=>?_⟩
             cases d<;>first|(cases h2.2;done)|simp [isAgg,run_underlying hd]
   | _=>cases h
theorem fld_sound {c:Cx} {s:TypeId} {f:Nat} {p:PV} {v:Value} {K:PV→Prop} (h:aFld P s f p K) (hr:Rep p c v): ∃ v' r,(Instr.fieldAt s v f).run P c.w= .ok v' c.w∧Rep r c v'∧K r:=by
 unfold aFld at h
 cases hf:fldOf P s f with
 | none=>rw [hf] at h;exact h.elim
 | some q =>
   obtain ⟨off,b⟩:=q
   rw [hf] at h
   obtain ⟨fs,fd,i,h1,h2,h3,h4,h5,_⟩:=fldOf_run hf
   have hrun: ∀ b o,(Instr.fieldAt s (.pointer (some ⟨b,o,none⟩)) f).run P c.w= .ok (.pointer (some ⟨b,o+off,none⟩)) c.w:=by
    intro b o
    simp [Instr.fieldAt,run_underlying h1,h2,Instr.sureAddr,fieldPlace,sizeOf,typeInfo,h4,h5,h3,addr_add]
   cases p with
   | ref i o =>
     unfold Rep at hr
     obtain ⟨u,b,e1,e2,rfl⟩:=hr
     exact ⟨_,_,hrun _ _,by unfold Rep;exact ⟨u,b,e1,e2,rfl⟩,h⟩
   | rref i k z o =>
     unfold Rep at hr
     obtain ⟨u,b,e1,e2,rfl⟩:=hr
     exact ⟨_,_,hrun _ _,by unfold Rep;exact ⟨u,b,e1,e2,by rw [Nat.add_assoc]⟩,h⟩
   | eref cs =>
     unfold Rep at hr
     obtain ⟨b,o,rfl,e2,e3⟩:=hr
     exact ⟨_,_,hrun _ _,by unfold Rep;exact ⟨b,o+off,rfl,e2,e3.drop off⟩,h⟩
   | _=>exact h.elim
def aIdx (P:Program) (t:TypeId) (mem:Mem) (x ix:PV) (K:PV→Prop):Prop :=
 match elOf P t,ix with
 | some (_,s,_),.int _ i=>0≤i∧(match x with
   | .seq es=> ∃ y,es[i.toNat]?=some y∧y.length=s∧K (.eref y)
   | .own id=>(match mem id with
     | some (.row _ s' es)=>s'=s∧i<es.length∧K (.rref id i.toNat s 0)
     | some (.fro es)=> ∃ y,es[i.toNat]?=some y∧y.length=s∧K (.eref y)
     | _=>False)
   | _=>False)
 | _,_=>False
theorem elOf_run {t e:TypeId} {s by_:Nat} (h:elOf P t=some (e,s,by_)): ∃ i z,P.underlying t=some (.slice e)∧P.info? e=some i∧i.zero=some z∧i.size=s∧i.bytes=by_∧z.cells.size=s∧0<s:=by
 unfold elOf at h
 cases hu:P.underlying t with
 | none=>rw [hu] at h;cases h
 | some d =>
   rw [hu] at h
   cases d with
   | slice e' =>
     simp only at h
     cases hi:P.info? e' with
     | none=>rw [hi] at h;cases h
     | some i =>
       rw [hi] at h
       simp only [Option.bind_some] at h
       cases hz:i.zero with
       | none=>rw [hz] at h;cases h
       | some z =>
         rw [hz] at h
         simp only [Bool.or_eq_true,decide_eq_true_eq,bne_iff_ne] at h
         split at h
         · cases h
         · rename_i hh
           simp only [Option.some.injEq,Prod.mk.injEq] at h
           obtain ⟨rfl,rfl,rfl⟩:=h
           have: ¬ i.size=0:=fun e=>hh (.inl e)
           have h2:z.cells.size=i.size:=Classical.byContradiction fun e=>hh (.inr e)
           exact ⟨i,z,rfl,hi,hz,rfl,rfl,h2,by omega⟩
   | _=>cases h
theorem idx_seq {c:Cx} {t e:TypeId} {s by_:Nat} (he:elOf P t=some (e,s,by_)) {es:List (List PV)} {v:Value} (hr:Rep (.seq es) c v) {k:IntKind} {i:Int} (h0:0≤i) {y:List PV} (hy:es[i.toNat]?=some y) (hs:y.length=s) :
 ∃ v',(Instr.indexAt t v (.int k i)).run P c.w= .ok v' c.w∧Rep (.eref y) c v':=by
 obtain ⟨inf,z,h1,h2,h3,h4,h5,h6,h7⟩:=elOf_run he
 unfold Rep at hr
 obtain ⟨a,cap,rfl,hl,hcap,hes⟩:=hr
 have hlt:i.toNat<es.length:=(List.getElem?_eq_some_iff.1 hy).1
 rcases hes with rfl|⟨b,o,s',rfl,hb,hE⟩
 · simp at hlt
 obtain ⟨g1,g2⟩:=hE.get _ _ hy
 have:s'=s:=g1.symm.trans hs
 subst this
 refine ⟨.pointer (some ⟨b,o+i.toNat * s',none⟩),?_,by unfold Rep;exact ⟨b,_,rfl,hb,g2⟩⟩
 have hlt':i<(es.length:Int):=by omega
 simp [Instr.indexAt,asIntOf,run_underlying h1,h0,hlt',sizeOf,typeInfo,h2,h4,addr_add]
theorem idx_sound {c:Cx} {mem:Mem} {t:TypeId} {x ix:PV} {v iv:Value} {K:PV→Prop} (h:aIdx P t mem x ix K) (hx:Rep x c v) (hi:Rep ix c iv) (hI:InvM c mem) :
 ∃ v' r,(Instr.indexAt t v iv).run P c.w= .ok v' c.w∧Rep r c v'∧K r:=by
 unfold aIdx at h
 cases he:elOf P t with
 | none=>rw [he] at h;exact h.elim
 | some q =>
 obtain ⟨e,s,by_⟩:=q
 rw [he] at h
 cases ix with
 | int k i =>
   unfold Rep at hi
   subst hi
   simp only at h
   obtain ⟨h0,h⟩:=h
   cases x with
   | seq es =>
     obtain ⟨y,hy,hs,hK⟩:=h
     obtain ⟨v',g1,g2⟩:=idx_seq he hx (k:=k) h0 hy hs
     exact ⟨v',_,g1,g2,hK⟩
   | own id =>
     simp only at h
     cases hm:mem id with
     | none=>rw [hm] at h;exact h.elim
     | some mb =>
       rw [hm] at h
       cases mb with
       | row e' s' es =>
         simp only at h
         obtain ⟨rfl,hlt,hK⟩:=h
         obtain ⟨_,S,h1,_,_⟩:=hI
         obtain ⟨u,vs,e1,e2,e3,e4,_⟩:=h1 id _ hm
         unfold Rep at hx
         rw [e1] at hx
         cases hx
         obtain ⟨inf,z,g1,g2,g3,g4,g5,g6,g7⟩:=elOf_run he
         rcases e2.2 with ⟨rfl,hz⟩|⟨g,cap,cur,rfl,_⟩
         · omega
         refine ⟨.pointer (some ⟨g,i.toNat * s',none⟩),_,?_,?_,hK⟩
         · simp [Instr.indexAt,asIntOf,run_underlying g1,h0,hlt,sizeOf,typeInfo,g2,g4,addr_add]
         · unfold Rep
           exact ⟨_,g,e1,rfl,by simp⟩
       | fro es =>
         simp only at h
         obtain ⟨y,hy,hs,hK⟩:=h
         obtain ⟨v',g1,g2⟩:=idx_seq he (rep_fro hI hm hx) (k:=k) h0 hy hs
         exact ⟨v',_,g1,g2,hK⟩
       | _=>exact h.elim
   | _=>exact h.elim
 | _=>exact h.elim
def aIndex (P:Program) (t:TypeId) (x ix:PV) (K:PV→Prop):Prop :=
 match x,ix with
 | .str l,.int _ i=>P.underlying t=some .string∧0≤i∧i<l.length∧K (.int .u8 (l.getD i.toNat 0).toNat)
 | _,_=>False
theorem index_sound {c:Cx} {t:TypeId} {x ix:PV} {v iv:Value} {K:PV→Prop} (h:aIndex P t x ix K) (hx:Rep x c v) (hi:Rep ix c iv) :
 ∃ v' r,(Instr.index t v iv).run P c.w= .ok v' c.w∧Rep r c v'∧K r:=by
 unfold aIndex at h
 cases x with
 | str l =>
   cases ix with
   | int k i =>
     obtain ⟨hu,h0,hlt,hK⟩:=h
     unfold Rep at hx hi
     subst hx hi
     have hl:i.toNat<l.length:=by omega
     refine ⟨.int .u8 (l.getD i.toNat 0).toNat,_,?_,by unfold Rep;rfl,hK⟩
     have hg:(ByteArray.mk l.toArray)[i.toNat]?=some (l.getD i.toNat 0):=by
      have hsz:i.toNat<(ByteArray.mk l.toArray).size:=by show i.toNat<l.toArray.size;simpa using hl
      rw [getElem?_pos (ByteArray.mk l.toArray) i.toNat hsz]
      congr 1
      show l.toArray[i.toNat]'(by simpa using hl)=_
      simp [List.getD,hl]
     simp [Instr.index,asIntOf,run_underlying hu,h0,hg]
   | _=>exact h.elim
 | _=>exact h.elim
def boundOf (dflt:Nat):Option PV→Option Int
 | none=>some dflt
 | some (.int _ i)=>some i
 | _=>none
def aSlice (P:Program) (t:TypeId) (mem:Mem) (n:Nat) (x:PV) (lo hi:Option PV) (K:PV→Mem→Nat→Prop):Prop :=
 match x with
 | .str l=>P.underlying t=some .string∧(match boundOf 0 lo,boundOf l.length hi with
   | some a,some b=>0≤a∧a≤b∧b≤l.length∧K (.str ((l.take b.toNat).drop a.toNat)) mem n
   | _,_=>False)
 | .seq es=>(elOf P t).isSome=true∧(match boundOf 0 lo,boundOf es.length hi with
   | some a,some b=>0≤a∧a≤b∧b≤es.length∧(∀ y ∈ es,y.length=((elOf P t).getD (0,0,0)).2.1)∧K (.seq ((es.take b.toNat).drop a.toNat)) mem n
   | _,_=>False)
 | .own id=>(match mem id with
   | some (.row e s es)=>(match elOf P t,lo,boundOf es.length hi with
     | some (_,s',_),none,some b=>s=s'∧0≤b∧b≤es.length∧K (.own n) (upd (upd mem id none) n (some (.row e s (es.take b.toNat)))) (n+1)
     | _,_,_=>False)
   | _=>False)
 | _=>False
theorem Rep.bound {c:Cx} {d:Nat} {o:Option PV} {v:Option Value} (h: ∀ u,o=some u→ ∃ x,v=some x∧Rep u c x) (h':o=none→v=none) {i:Int} (hb:boundOf d o=some i) :
 (v=none∧o=none∧i=d)∨ ∃ k,v=some (.int k i):=by
 cases o with
 | none=>simp only [boundOf,Option.some.injEq] at hb;exact .inl ⟨h' rfl,rfl,hb.symm⟩
 | some u =>
   obtain ⟨x,rfl,hx⟩:=h u rfl
   cases u<;>simp only [boundOf] at hb<;>first|(cases hb;done)|skip
   rename_i k j
   simp only [Option.some.injEq] at hb
   subst hb
   unfold Rep at hx
   exact .inr ⟨k,by rw [hx]⟩
theorem run_bounds {isS:Bool} {len cap:Nat} {lo hi:Option Value} {a b:Int} (ha:(lo=none∧a=0)∨ ∃ k,lo=some (.int k a)) (hb:(hi=none∧b=len)∨ ∃ k,hi=some (.int k b))
 (h0:0≤a) (h1:a≤b) (h2:b≤cap) (w:World):(Instr.sliceBounds isS len cap lo hi none).run P w= .ok (a.toNat,b.toNat,cap) w:=by
 have h3:(b.toNat:Int)=b:=Int.toNat_of_nonneg (by omega)
 rcases ha with ⟨rfl,rfl⟩|⟨k,rfl⟩<;>rcases hb with ⟨rfl,rfl⟩|⟨k',rfl⟩
 · simp [Instr.sliceBounds]
 · simp [Instr.sliceBounds,Instr.sliceBound,asIntOf,h2,show 0≤b by omega]
 · have:a≤(len:Int):=h1
   simp [Instr.sliceBounds,Instr.sliceBound,asIntOf,h0,this]
 · simp [Instr.sliceBounds,Instr.sliceBound,asIntOf,h2,show 0≤b by omega,h0,h3,h1]
theorem rep_seq_cut {c:Cx} {t e:TypeId} {s by_:Nat} (he:elOf P t=some (e,s,by_)) {es:List (List PV)} {len:Nat} {a:Option Addr} {cap:Nat} (hl:es.length=len) (hr:Rep (.seq es) c (.slice a len cap)) {l h:Nat} (h1:l≤h) (h2:h≤len) (hs: ∀ y ∈ es,y.length=s) :
 Rep (.seq ((es.take h).drop l)) c (.slice (if cap=l then a else a.map (·.add (l * s))) (h - l) (cap - l)):=by
 unfold Rep at hr ⊢
 obtain ⟨a',cap',e1,e2,e3,e4⟩:=hr
 injection e1 with e1 e5 e6
 subst e1 e6
 have hlen:((es.take h).drop l).length=h - l:=by simp;omega
 refine ⟨_,_,by rw [hlen],by rw [hlen];omega,by omega,?_⟩
 rcases e4 with rfl|⟨b,o,s',rfl,hb,hE⟩
 · left;simp
 · by_cases hh:l=h
   · left
     exact List.eq_nil_of_length_eq_zero (by rw [hlen];omega)
   · right
     have hne:es≠[]:=by rintro rfl;simp at hl;omega
     obtain ⟨y,ys,rfl⟩:=List.exists_cons_of_ne_nil hne
     have hss:s'=s:=by
      have:=hE.get 0 y rfl
      exact this.1.symm.trans (hs y (by simp))
     subst hss
     refine ⟨b,o+l * s',s',?_,hb,(hE.take h).drop l⟩
     rw [if_neg (by omega)]
     simp [addr_add]
def bc (b:UInt8):List PV:=[.int .u8 b.toNat]
def aConvInt (k:IntKind) (x:PV) (K:PV→Prop):Prop :=
 match x with
 | .int _ i=>inR k i∧K (.int k i)
 | _=>False
def aConv (P:Program) (src dst:TypeId) (mem:Mem) (x:PV) (K:PV→Prop):Prop :=
 match kindOf P src,kindOf P dst with
 | some _,some (.inl k)=>aConvInt k x K
 | some (.inr .str),some (.inr .str)=>(match x with
   | .str l=>K (.str l)
   | _=>False)
 | some (.inr .str),some (.inr .bytes)=>(match x with
   | .str l=>l.length≤maxLen∧K (.seq (l.map bc))
   | _=>False)
 | some (.inr .bytes),some (.inr .str)=>(match x with
   | .nil=>K (.str [])
   | .seq es=> ∃ l,es=l.map bc∧K (.str l)
   | .own i=>(match mem i with
     | some (.row e s es)=>s=1∧(elOf P src).map (·.1)=some e∧ ∃ l,es=l.map bc∧K (.str l)
     | some (.fro es)=> ∃ l,es=l.map bc∧K (.str l)
     | _=>False)
   | _=>False)
 | _,_=>False
theorem kindOf_int {t:TypeId} {k:IntKind} (h:kindOf P t=some (.inl k)):P.underlying t=some (.int k):=by
 unfold kindOf at h
 cases hu:P.underlying t with
 | none=>rw [hu] at h;cases h
 | some d =>
   rw [hu] at h
   cases d with
   | int k'=>simp only [Option.some.injEq,Sum.inl.injEq] at h;rw [h]
   | slice e =>
     simp only at h
     split at h<;>simp at h
   | _=>simp at h
theorem kindOf_str {t:TypeId} (h:kindOf P t=some (.inr .str)):P.underlying t=some .string:=by
 unfold kindOf at h
 cases hu:P.underlying t with
 | none=>rw [hu] at h;cases h
 | some d =>
   rw [hu] at h
   cases d with
   | string=>rfl
   | slice e =>
     simp only at h
     split at h<;>simp at h
   | _=>simp at h
theorem kindOf_bytes {t:TypeId} (h:kindOf P t=some (.inr .bytes)): ∃ e,P.underlying t=some (.slice e)∧P.underlying e=some (.int .u8):=by
 unfold kindOf at h
 cases hu:P.underlying t with
 | none=>rw [hu] at h;cases h
 | some d =>
   rw [hu] at h
   cases d with
   | slice e =>
     simp only at h
     cases he:P.underlying e with
     | none=>rw [he] at h;simp at h
     | some d =>
       rw [he] at h
       refine ⟨e,rfl,?_⟩
       cases d with
       | int k=>cases k<;>first|exact he|(simp at h;done)
       | _=>simp at h
   | _=>simp at h
theorem bytes_vals {c:Cx}: ∀ {l:List UInt8} {vs:List Value},RepL ((l.map bc).flatten) c vs→vs=l.map B8
 | [],vs,h=>by simpa [RepL.nil_iff] using h
 | b::l,vs,h=>by
   rw [List.map_cons,List.flatten_cons] at h
   show _=B8 b::l.map B8
   rw [show bc b++(l.map bc).flatten=PV.int .u8 b.toNat::(l.map bc).flatten from rfl,RepL.cons_iff] at h
   obtain ⟨x,xs,rfl,h1,h2⟩:=h
   unfold Rep at h1
   rw [bytes_vals h2,h1]
   rfl
theorem bytes_rep (c:Cx): ∀ l:List UInt8,RepL ((l.map bc).flatten) c (l.map B8)
 | []=>by simp [RepL.nil_iff]
 | b::l=>by
   rw [List.map_cons,List.flatten_cons,show bc b++(l.map bc).flatten=PV.int .u8 b.toNat::(l.map bc).flatten from rfl,List.map_cons,RepL.cons_iff]
   exact ⟨_,_,rfl,by unfold Rep;rfl,bytes_rep c l⟩
theorem conv_seq_str {c:Cx} {src dst e:TypeId} {l:List UInt8} {v:Value} (hr:Rep (.seq (l.map bc)) c v) (hs:P.underlying src=some (.slice e)) (he:P.underlying e=some (.int .u8)) (hd:P.underlying dst=some .string) :
 (convert src dst v).run P c.w= .ok (.string ⟨l.toArray⟩) c.w:=by
 unfold Rep at hr
 obtain ⟨a,cap,rfl,hl,hcap,hes⟩:=hr
 rw [List.length_map]
 rcases hes with hn|⟨b,o,s,rfl,hb,hE⟩
 · have:l=[]:=by simpa using hn
   subst this
   cases a with
   | none=>exact Lib.run_convert_nil_bytes c.w src dst e cap hs he hd
   | some a=>exact run_convert_bytes_back c.w src dst e a cap [] hs he hd (by intro j hj;simp at hj)
 · refine run_convert_bytes_back c.w src dst e _ cap l hs he hd (fun j hj=>?_)
   obtain ⟨g1,g2⟩:=hE.get j (bc l[j]) (by simp [hj])
   rw [show s=1 from by rw [← g1];rfl,Nat.mul_one] at g2
   unfold bc at g2
   rw [RepA.cons_iff] at g2
   obtain ⟨⟨_,x,hx,hxr⟩,_⟩:=g2
   unfold Rep at hxr
   subst hxr
   rw [addr_add]
   exact hx
theorem conv_sound {c:Cx} {mem:Mem} {n:Nat} {src dst:TypeId} {x:PV} {v:Value} {K:PV→Prop} (h:aConv P src dst mem x K) (hx:Rep x c v) (hI:InvM c mem) (hn:Names c n) :
 ∃ v' r c',(convert src dst v).run P c.w= .ok v' c'.w∧Rep r c' v'∧K r∧Step c mem n c' mem n:=by
 have here: ∀ {v' r},(convert src dst v).run P c.w= .ok v' c.w→Rep r c v'→K r→ ∃ v' r c',(convert src dst v).run P c.w= .ok v' c'.w∧Rep r c' v'∧K r∧Step c mem n c' mem n :=
  fun h1 h2 h3=>⟨_,_,c,h1,h2,h3,.refl hI hn⟩
 unfold aConv at h
 cases hs:kindOf P src with
 | none=>rw [hs] at h;exact h.elim
 | some ks =>
 cases hd:kindOf P dst with
 | none=>rw [hs,hd] at h;cases ks<;>first|exact h.elim|(rename_i q;cases q<;>exact h.elim)
 | some kd =>
 rw [hs,hd] at h
 cases kd with
 | inl k =>
   have h':aConvInt k x K:=by
    cases ks with
    | inl _=>exact h
    | inr q=>cases q<;>exact h
   cases x with
   | int k' i =>
     simp only [aConvInt] at h'
     unfold Rep at hx
     subst hx
     refine here (v':= .int k i) (r:= .int k i) ?_ (by unfold Rep;rfl) h'.2
     have hds:=kindOf_int hd
     have hu: ∃ d,P.underlying src=some d:=by
      unfold kindOf at hs
      cases hq:P.underlying src with
      | none=>rw [hq] at hs;cases hs
      | some d=>exact ⟨d,rfl⟩
     obtain ⟨d,hu⟩:=hu
     simp [convert,run_underlying hu,run_underlying hds,Conv.intToInt,h'.1.wrap]
   | _=>exact h'.elim
 | inr qd =>
   cases ks with
   | inl _=>cases qd<;>exact h.elim
   | inr qs =>
     cases qs<;>cases qd<;>simp only at h
     · -- str to str
       cases x with
       | str l =>
         unfold Rep at hx
         subst hx
         refine here (v':= .string ⟨l.toArray⟩) (r:= .str l) ?_ (by unfold Rep;rfl) h
         simp [convert,run_underlying (kindOf_str hs),run_underlying (kindOf_str hd)]
       | _=>exact h.elim
     · -- str to bytes
       cases x with
       | str l =>
         unfold Rep at hx
         subst hx
         obtain ⟨e,h1,h2⟩:=kindOf_bytes hd
         have hrun:=run_bytes_of_string (P:=P) c.w src dst e ⟨l.toArray⟩ (kindOf_str hs) h1 h2
         have hsz:(ByteArray.mk l.toArray).size=l.length:=by show l.toArray.size=_;simp
         rw [hsz] at hrun
         have hcge:=grownCap_ge c.w l.length 0 e
         have hcle:=grownCap_le_maxLen c.w l.length 0 e h.1
         generalize grownCap c.w l.length 0 e=cp at *
         let o:Obj:= .cells (bytesRow ⟨l.toArray⟩ cp) e ((bytesRow ⟨l.toArray⟩ cp).size,(bytesRow ⟨l.toArray⟩ cp).size+1)
         let c':Cx:=⟨c.w.drew.alloc o,fun b=>c.fz b∨b=c.w.heap.size,c.ρ⟩
         refine ⟨_,.seq (l.map bc),c',hrun,?_,h.2,Step.later hI hn rfl (fun _ h=> .inl h) ?_ ?_⟩
         · unfold Rep
           refine ⟨_,cp,by rw [List.length_map],by rw [List.length_map];exact hcge,hcle,.inr ⟨c.w.heap.size,0,1,rfl,.inr rfl,?_⟩⟩
           rw [RepE.flat]
           refine ⟨by simp [bc],RepA.of_vals (bytes_rep c'.data l) (fun j u hj=>?_) ?_⟩
           · show (c.w.drew.alloc o).cell? ⟨c.w.heap.size,0+j,none⟩=some u
             have:=World.cell?_alloc_mark c.w.drew (bytesRow ⟨l.toArray⟩ cp) e ((bytesRow ⟨l.toArray⟩ cp).size,(bytesRow ⟨l.toArray⟩ cp).size+1) (0+j)
             rw [World.size_drew] at this
             rw [this,Nat.zero_add]
             have hjl:j<l.length:=by
              have:=(List.getElem?_eq_some_iff.1 hj).1
              simpa using this
             rw [List.getElem?_map,List.getElem?_eq_getElem hjl] at hj
             simp only [Option.map_some,Option.some.injEq] at hj
             subst hj
             simp [bytesRow,Array.getElem?_append,hjl,B8]
           · intro u hu
             simp only [List.mem_flatten,List.mem_map] at hu
             obtain ⟨y,⟨b,_,rfl⟩,hu⟩:=hu
             simp only [bc,List.mem_singleton] at hu
             subst hu
             rfl
         · exact (Below.refl _ _).drew.alloc (Nat.le_refl _) _
         · rintro b (hb|rfl)
           · exact .inl hb
           · exact .inr ⟨Nat.le_refl _,by simp [c']⟩
       | _=>exact h.elim
     · -- bytes to str
       obtain ⟨e,h1,h2⟩:=kindOf_bytes hs
       have h3:=kindOf_str hd
       cases x with
       | nil =>
         unfold Rep at hx
         subst hx
         exact here (v':= .string ⟨#[]⟩) (r:= .str []) (Lib.run_convert_nil_bytes c.w src dst e 0 h1 h2 h3) (by unfold Rep;rfl) h
       | seq es =>
         obtain ⟨l,rfl,hK⟩:=h
         exact here (conv_seq_str hx h1 h2 h3) (by unfold Rep;rfl) hK
       | own i =>
         simp only at h
         cases hm:mem i with
         | none=>rw [hm] at h;exact h.elim
         | some mb =>
           rw [hm] at h
           cases mb with
           | row e' s es =>
             obtain ⟨rfl,he,l,rfl,hK⟩:=h
             cases hq:elOf P src with
             | none=>rw [hq] at he;cases he
             | some q =>
             obtain ⟨e2,s2,y2⟩:=q
             rw [hq] at he
             simp only [Option.map_some,Option.some.injEq] at he
             subst he
             obtain ⟨inf,z,k1,_⟩:=elOf_run hq
             rw [h1] at k1
             injection k1 with k1
             injection k1 with k1
             subst k1
             obtain ⟨_,S,g1,_,_⟩:=hI
             obtain ⟨u,vs,e1,e2,e3,e4,_⟩:=g1 i _ hm
             unfold Rep at hx
             rw [e1] at hx
             cases hx
             rw [List.length_map,bytes_vals e3] at e2
             exact here (run_string_own e2 src dst h1 h2 h3) (by unfold Rep;rfl) hK
           | fro es =>
             obtain ⟨l,rfl,hK⟩:=h
             exact here (conv_seq_str (rep_fro hI hm hx) h1 h2 h3) (by unfold Rep;rfl) hK
           | _=>exact h.elim
       | _=>exact h.elim
     all_goals exact h.elim
end
end Go.Proofs.YtnbjogilidfkdaaGreat
