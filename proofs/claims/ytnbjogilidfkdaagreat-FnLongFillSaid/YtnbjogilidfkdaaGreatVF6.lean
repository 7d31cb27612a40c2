/- Abstract operations: cuts, operators, structs, slices made and appended to. -/
import Derived.Test.YtnbjogilidfkdaaGreatVF5
import Derived.Laws.Tables

namespace Go.Proofs.YtnbjogilidfkdaaGreat
set_option maxRecDepth 100000
set_option linter.unusedVariables false
set_option linter.unusedSimpArgs false
open Go.RowKit
section
variable {P:Program}
theorem Names.upd {c:Cx} {n:Nat} (hn:Names c n) {c':Cx} {v:Value} (h:c'.ρ=Proofs.YtnbjogilidfkdaaGreat.upd c.ρ n (some v)) (hv:v.oneCell'=true):Names c' (n+1):=by
 refine ⟨fun i hi=>?_,fun i u hi=>?_⟩
 · rw [h,upd_other _ _ (by omega)];exact hn.1 i (by omega)
 · rw [h] at hi
   by_cases e:i=n
   · subst e;rw [upd_same] at hi;cases hi;exact hv
   · rw [upd_other _ _ e] at hi;exact hn.2 i u hi
theorem free_mem {c:Cx} {mem:Mem} {n:Nat} (hI:InvM c mem) (hn:Names c n):mem n=none:=by
 cases hm:mem n with
 | none=>rfl
 | some mb =>
   obtain ⟨_,S,h1,_,_⟩:=hI
   obtain ⟨v,hv⟩:=(h1 n mb hm).ρ
   rw [hn.1 n (Nat.le_refl _)] at hv
   cases hv
def drp (mem:Mem):Option Nat→Mem
 | some i=>upd mem i none
 | none=>mem
/-- A new row under a new name, in the place of an old one or of none. -/
theorem new_row {c:Cx} {mem:Mem} {n:Nat} (hI:InvM c mem) (hn:Names c n) (old:Option Nat) {w':World} {v:Value} {e:TypeId} {s:Nat} {es:List (List PV)} {vs:List Value}
 (hos:w'.os=c.w.os) (htp:w'.tape=c.w.tape) (hou:w'.output=c.w.output) (hsz:c.w.heap.size≤w'.heap.size)
 (hold: ∀ i,old=some i→mem i≠none)
 (hw: ∀ b,b<c.w.heap.size→(∀ i mb S,old=some i→mem i=some mb→MRep c i S mb→ ¬ S b)→w'.heap[b]?=c.w.heap[b]?)
 (hown:w'.ownsRow 0 e s v es.length vs) (hr:RepL es.flatten c.data vs) (hc:cellsOk es s)
 (hS: ∀ b,v.ownBlock=some b→(∃ i mb S,old=some i∧mem i=some mb∧MRep c i S mb∧S b)∨c.w.heap.size≤b) :
 ∃ c',c'.w=w'∧Step c mem n c' (upd (drp mem old) n (some (.row e s es))) (n+1)∧Rep (.own n) c' v∧v.oneCell'=true:=by
 have hmn:=free_mem hI hn
 have hone:v.oneCell'=true:=by
  rcases hown.2 with ⟨rfl,_⟩|⟨g,cap,cur,rfl,_⟩<;>rfl
 let c':Cx:=⟨w',c.fz,upd c.ρ n (some v)⟩
 have hmk: ∀ k,k≠n→(upd (drp mem old) n (some (MB.row e s es))) k=mem k∨(upd (drp mem old) n (some (MB.row e s es))) k=none:=by
  intro k hk
  rw [upd_other _ _ hk]
  cases old with
  | none=>exact .inl rfl
  | some i =>
    by_cases e:k=i
    · subst e;exact .inr (upd_same _ _ _)
    · exact .inl (upd_other (f:=mem) _ e)
 have hne: ∀ i,old=some i→i≠n:=by rintro i hi rfl;exact hold i hi hmn
 obtain ⟨h1,h2,h3⟩:=InvM.put (c:=c) (c':=c') (mem:=mem) (mem':=upd (drp mem old) n (some (.row e s es))) (j:=n) (S':=fun b=>v.ownBlock=some b) hI old rfl (fun k hk=>upd_other _ _ hk) (.inl (hn.1 n (Nat.le_refl _)))
  (upd_same _ _ _) hmk (fun i hi=>⟨hold i hi,.inr (by subst hi;rw [upd_other _ _ (hne i rfl)];exact upd_same _ _ _)⟩) (.inr hmn) hsz hw
  (fun hle=>⟨v,vs,upd_same _ _ _,hown,RepL.mono _ hle.data hr,hc,rfl⟩) hS
 refine ⟨c',rfl,⟨h1,h2,hos,htp,hou,hsz,fun b hb hm=>hw b hb (fun i mb S hi hmi hr' hs=>hm ⟨i,S,mb,hmi,hr',hs⟩),h3,fun _ h=> .inl h,by omega,fun i hi=>upd_other _ _ (by omega),hn.upd rfl hone⟩,?_,hone⟩
 unfold Rep
 exact upd_same _ _ _
theorem str_extract (l:List UInt8) (a b:Nat) (h1:a≤b) (h2:b≤l.length):(ByteArray.mk l.toArray).extract a b=⟨((l.take b).drop a).toArray⟩:=by
 have:((ByteArray.mk l.toArray).extract a b).data=((l.take b).drop a).toArray:=by
  rw [ByteArray.data_extract]
  show l.toArray.extract a b=_
  apply Array.ext'
  simp [List.extract_eq_take_drop,List.drop_take]
 rw [← this]
theorem slice_sound {c:Cx} {mem:Mem} {n:Nat} {t:TypeId} {x:PV} {v:Value} {lo hi:Option PV} {lv hv:Option Value} {K:PV→Mem→Nat→Prop} (h:aSlice P t mem n x lo hi K) (hx:Rep x c v)
 (h1: ∀ u,lo=some u→ ∃ x,lv=some x∧Rep u c x) (h1':lo=none→lv=none) (h2: ∀ u,hi=some u→ ∃ x,hv=some x∧Rep u c x) (h2':hi=none→hv=none) (hI:InvM c mem) (hn:Names c n) :
 Out P (Instr.sliceAt t v lv hv none) c mem n K:=by
 unfold aSlice at h
 cases x with
 | str l =>
   obtain ⟨hu,h⟩:=h
   cases ha:boundOf 0 lo with
   | none=>rw [ha] at h;exact h.elim
   | some a =>
   cases hb:boundOf l.length hi with
   | none=>rw [ha,hb] at h;exact h.elim
   | some b =>
   rw [ha,hb] at h
   obtain ⟨b0,b1,b2,hK⟩:=h
   unfold Rep at hx
   subst hx
   have e1:=Rep.bound h1 h1' ha
   have e2:=Rep.bound h2 h2' hb
   have hsz:(ByteArray.mk l.toArray).size=l.length:=by show l.toArray.size=_;simp
   have hr:=run_bounds (P:=P) (isS:=false) (len:=l.length) (cap:=l.length) (lo:=lv) (hi:=hv) (a:=a) (b:=b)
    (e1.imp (fun e=>⟨e.1,e.2.2⟩) id) (e2.imp (fun e=>⟨e.1,e.2.2⟩) id) b0 b1 b2 c.w
   refine Out.here (v:= .string ⟨((l.take b.toNat).drop a.toNat).toArray⟩) hI hn ?_ (by unfold Rep;rfl) hK
   simp only [Instr.sliceAt,Instr.slice,Sem.run_bind,run_underlying hu,Result.andThen_ok,Option.isSome_none,Bool.false_eq_true,if_false,hsz,hr,Sem.run_pure]
   rw [str_extract l _ _ (by omega) (by omega)]
 | seq es =>
   obtain ⟨he,h⟩:=h
   obtain ⟨⟨e,s,by_⟩,he⟩:=Option.isSome_iff_exists.1 he
   rw [he] at h
   cases ha:boundOf 0 lo with
   | none=>rw [ha] at h;exact h.elim
   | some a =>
   cases hb:boundOf es.length hi with
   | none=>rw [ha,hb] at h;exact h.elim
   | some b =>
   rw [ha,hb] at h
   obtain ⟨b0,b1,b2,hs,hK⟩:=h
   simp only [Option.getD_some] at hs
   obtain ⟨inf,z,k1,k2,k3,k4,k5,k6,k7⟩:=elOf_run he
   have hx':=hx
   unfold Rep at hx
   obtain ⟨ad,cap,rfl,hlc,hcm,_⟩:=hx
   have e1:=Rep.bound h1 h1' ha
   have e2:=Rep.bound h2 h2' hb
   have hr:=run_bounds (P:=P) (isS:=true) (len:=es.length) (cap:=cap) (lo:=lv) (hi:=hv) (a:=a) (b:=b)
    (e1.imp (fun e=>⟨e.1,e.2.2⟩) id) (e2.imp (fun e=>⟨e.1,e.2.2⟩) id) b0 b1 (by omega) c.w
   refine Out.here (v:= .slice (if cap=a.toNat then ad else ad.map (·.add (a.toNat * s))) (b.toNat - a.toNat) (cap - a.toNat)) hI hn ?_ (rep_seq_cut he rfl hx' (by omega) (by omega) hs) hK
   simp only [Instr.sliceAt,Instr.slice,Sem.run_bind,run_underlying k1,Result.andThen_ok,hr,Sem.run_pure,sizeOf,typeInfo,run_program,k2,k4]
 | own id =>
   simp only at h
   cases hm:mem id with
   | none=>rw [hm] at h;exact h.elim
   | some mb =>
     rw [hm] at h
     cases mb with
     | row e s es =>
       simp only at h
       cases he:elOf P t with
       | none=>rw [he] at h;exact h.elim
       | some q =>
       obtain ⟨e',s',by_⟩:=q
       cases lo with
       | some _=>rw [he] at h;exact h.elim
       | none =>
       cases hb:boundOf es.length hi with
       | none=>rw [he,hb] at h;exact h.elim
       | some b =>
       rw [he,hb] at h
       obtain ⟨rfl,b0,b2,hK⟩:=h
       obtain ⟨inf,z,k1,k2,k3,k4,k5,k6,k7⟩:=elOf_run he
       have hI':=hI
       obtain ⟨hf,S,g1,g2,g3⟩:=hI'
       obtain ⟨u,vs,e1,e2,e3,e4,e5⟩:=g1 id _ hm
       unfold Rep at hx
       rw [e1] at hx
       cases hx
       have hlv:=h1' rfl
       subst hlv
       have e6:=Rep.bound h2 h2' hb
       have hfl:=flatten_length e4.1
       have htk:(es.take b.toNat).flatten=es.flatten.take (b.toNat * s):=by
        have:=flatten_length (s:=s) (es:=es.take b.toNat) (fun x hx=>e4.1 x (List.mem_of_mem_take hx))
        have h3:es.flatten=(es.take b.toNat).flatten++(es.drop b.toNat).flatten:=by rw [← List.flatten_append,List.take_append_drop]
        have hA:(es.take b.toNat).flatten.length=b.toNat * s:=by rw [this,List.length_take,Nat.min_eq_left (by omega)]
        rw [h3,← hA,List.take_left]
       have hbl:(es.take b.toNat).length=b.toNat:=by rw [List.length_take];omega
       have hcut: ∃ v',(Instr.sliceAt t v none hv none).run P c.w= .ok v' c.w∧c.w.ownsRow 0 e s v' b.toNat (vs.take (b.toNat * s))∧v'.ownBlock=v.ownBlock:=by
        have hl0:vs.length=es.length * s:=e2.1
        have hml:b.toNat * s≤es.length * s:=Nat.mul_le_mul_right _ (by omega)
        have hlen2:(vs.take (b.toNat * s)).length=b.toNat * s:=by rw [List.length_take];omega
        rcases e2.2 with ⟨rfl,hz⟩|⟨g,cap,cur,rfl,w1,w2,w3,w4,w5,w6⟩
        · have hb0:b=0:=by omega
          have hr:=run_bounds (P:=P) (isS:=true) (len:=0) (cap:=0) (lo:=none) (hi:=hv) (a:=0) (b:=b) (.inl ⟨rfl,rfl⟩)
           (e6.imp (fun e=>⟨e.1,by rw [e.2.2,hz]⟩) (fun x=>x)) (by omega) (by omega) (by omega) c.w
          refine ⟨.slice none 0 0,?_,⟨hlen2,.inl ⟨rfl,by omega⟩⟩,rfl⟩
          simp only [Instr.sliceAt,Instr.slice,Sem.run_bind,run_underlying k1,Result.andThen_ok,hr,Sem.run_pure,sizeOf,typeInfo,run_program,k2,k4]
          simp [hb0]
        · have hr:=run_bounds (P:=P) (isS:=true) (len:=es.length) (cap:=cap) (lo:=none) (hi:=hv) (a:=0) (b:=b) (.inl ⟨rfl,rfl⟩)
           (e6.imp (fun e=>⟨e.1,e.2.2⟩) (fun x=>x)) (by omega) (by omega) (by omega) c.w
          refine ⟨.slice (some ⟨g,0,none⟩) b.toNat cap,?_,⟨hlen2,.inr ⟨g,cap,cur,rfl,w1,w2,by omega,w4,w5,?_⟩⟩,rfl⟩
          · simp only [Instr.sliceAt,Instr.slice,Sem.run_bind,run_underlying k1,Result.andThen_ok,hr,Sem.run_pure,sizeOf,typeInfo,run_program,k2,k4]
            simp [Addr.add]
          · rw [← w6,List.take_take,Nat.min_eq_left hml]
       obtain ⟨v',hrun,how,hob⟩:=hcut
       obtain ⟨c',q1,q2,q3,q4⟩:=new_row hI hn (some id) (w':=c.w) (v:=v') (e:=e) (s:=s) (es:=es.take b.toNat) (vs:=vs.take (b.toNat * s)) rfl rfl rfl (Nat.le_refl _)
        (fun i hi=>by cases hi;simp [hm]) (fun _ _ _=>rfl) (by rw [hbl];exact how) (by rw [htk];exact e3.take _)
        ⟨fun x hx=>e4.1 x (List.mem_of_mem_take hx),fun x hx=>by rw [htk] at hx;exact e4.2 x (List.mem_of_mem_take hx)⟩
        (fun b hb=> .inl ⟨id,_,_,rfl,hm,g1 id _ hm,by rw [e5];exact hob ▸ hb⟩)
       exact ⟨v',_,c',_,_,by rw [q1];exact hrun,hK,q2,q3⟩
     | _=>exact h.elim
 | _=>exact h.elim
inductive EK where
 | i|s|b
 deriving DecidableEq
def ekOf (P:Program) (t:TypeId):Option EK :=
 match P.underlying t with
 | some (.int _)=>some .i
 | some .string=>some .s
 | some .bool=>some .b
 | _=>none
def eksFrom (P:Program):Nat→List Field→Option (List EK)
 | _,[]=>some []
 | o,f::fs=>if f.name ≠ "_" ∧ f.offset=o then (match ekOf P f.type,eksFrom P (o+1) fs with
   | some k,some ks=>some (k::ks)
   | _,_=>none) else none
/-- The kinds of the fields of a struct that is compared field by field. -/
def eksOf (P:Program) (t:TypeId):Option (List EK) :=
 match P.underlying t with
 | some (.struct fs)=>if P.stoodInHeld t || P.eqGuardType P.depth t then none else eksFrom P 0 fs.toList
 | _=>none
def eqPV:EK→PV→PV→Option Bool
 | .i,.int k n,.int k' m=>if k=k' then some (decide (n=m)) else none
 | .s,.str l,.str m=>some (decide (l=m))
 | .b,.bool a,.bool b=>some (a == b)
 | _,_,_=>none
def eqPVs:List EK→List PV→List PV→Option Bool
 | [],[],[]=>some true
 | k::ks,x::xs,y::ys=>match eqPV k x y,eqPVs ks xs ys with
   | some a,some b=>some (a && b)
   | _,_=>none
 | _,_,_=>none
def aBin' (P:Program) (op:BinOp) (t:TypeId) (x y:PV) (K:PV→Prop):Prop :=
 match op,x,y with
 | .eql,.agg xs,.agg ys=>(match eksOf P t with
   | some ks=>(match eqPVs ks xs ys with
     | some b=>K (.bool b)
     | none=>False)
   | none=>False)
 | .neq,.agg xs,.agg ys=>(match eksOf P t with
   | some ks=>(match eqPVs ks xs ys with
     | some b=>K (.bool (!b))
     | none=>False)
   | none=>False)
 | op,x,y=>aBin P op t x y K
theorem mk_toList' (l:List UInt8):(⟨l.toArray⟩:ByteArray).toList=l:=by rw [toList_data]
theorem eqPV_run {k:EK} {t:TypeId} (hk:ekOf P t=some k) {x y:PV} {c:Cx} {v u:Value} {b:Bool} (h:eqPV k x y=some b) (hx:Rep x c v) (hy:Rep y c u) (d:Nat) :
 (Op.equalIn (d+1) t v u).run P c.w= .ok b c.w:=by
 unfold ekOf at hk
 cases hu:P.underlying t with
 | none=>rw [hu] at hk;cases hk
 | some td =>
   rw [hu] at hk
   cases td<;>simp only at hk<;>first|(cases hk;done)|(simp only [Option.some.injEq] at hk;subst hk)
   case bool =>
    cases x<;>cases y<;>simp only [eqPV] at h<;>first|(cases h;done)|skip
    unfold Rep at hx hy
    subst hx hy
    rw [run_equalIn_bool' _ _ _ _ _ hu]
    cases h;rfl
   case int =>
    cases x<;>cases y<;>simp only [eqPV] at h<;>first|(cases h;done)|skip
    unfold Rep at hx hy
    subst hx hy
    split at h
    · rename_i hkk
      subst hkk
      rw [run_equalIn_int _ _ _ _ _ _ _ hu]
      cases h;rfl
    · cases h
   case string =>
    cases x<;>cases y<;>simp only [eqPV] at h<;>first|(cases h;done)|skip
    unfold Rep at hx hy
    subst hx hy
    rw [run_equalIn_string _ _ _ _ _ hu,mk_toList',mk_toList']
    cases h
    congr 1
    rw [Bool.eq_iff_iff]
    simp
theorem ekOf_one {t:TypeId} {k:EK} (hk:ekOf P t=some k) (w:World):(isAgg t).run P w= .ok false w:=by
 unfold ekOf at hk
 cases hu:P.underlying t with
 | none=>rw [hu] at hk;cases hk
 | some td =>
   rw [hu] at hk
   cases td<;>simp only at hk<;>first|(cases hk;done)|simp [isAgg,run_underlying hu]
theorem eqPVs_run {c:Cx} (d:Nat) {vs us:Array Value}: ∀ (fs:List Field) (o:Nat) {ks:List EK} {xs ys:List PV} {b:Bool},eksFrom P o fs=some ks→eqPVs ks xs ys=some b →
 RepL xs c (vs.toList.drop o)→RepL ys c (us.toList.drop o)→(Op.eqFields (d+1) vs us fs).run P c.w= .ok b c.w
 | [],o,ks,xs,ys,b,hk,hb,hx,hy=>by
   simp only [eksFrom,Option.some.injEq] at hk
   subst hk
   cases xs<;>cases ys<;>simp only [eqPVs] at hb<;>first|(cases hb;done)|skip
   cases hb
   simp [Op.eqFields]
 | f::fs,o,ks,xs,ys,b,hk,hb,hx,hy=>by
   simp only [eksFrom] at hk
   split at hk
   · rename_i hf
     obtain ⟨hf1,hf2⟩:=hf
     cases h1:ekOf P f.type with
     | none=>rw [h1] at hk;cases hk
     | some k =>
     cases h2:eksFrom P (o+1) fs with
     | none=>rw [h1,h2] at hk;cases hk
     | some ks' =>
     rw [h1,h2] at hk
     simp only [Option.some.injEq] at hk
     subst hk
     cases xs with
     | nil=>cases ys<;>simp [eqPVs] at hb
     | cons x xs =>
     cases ys with
     | nil=>simp [eqPVs] at hb
     | cons y ys =>
     simp only [eqPVs] at hb
     cases h3:eqPV k x y with
     | none=>rw [h3] at hb;cases hb
     | some a =>
     cases h4:eqPVs ks' xs ys with
     | none=>rw [h3,h4] at hb;cases hb
     | some r =>
     rw [h3,h4] at hb
     simp only [Option.some.injEq] at hb
     subst hb
     rw [RepL.cons_iff] at hx hy
     obtain ⟨v,vr,e1,r1,r2⟩:=hx
     obtain ⟨u,ur,e2,r3,r4⟩:=hy
     have hv:vs[f.offset]?=some v:=by
      rw [hf2,← Array.getElem?_toList]
      have:=congrArg (·[0]?) e1
      simpa [List.getElem?_drop] using this
     have hu:us[f.offset]?=some u:=by
      rw [hf2,← Array.getElem?_toList]
      have:=congrArg (·[0]?) e2
      simpa [List.getElem?_drop] using this
     have hvr:vr=vs.toList.drop (o+1):=by
      have:=congrArg List.tail e1
      simpa using this.symm
     have hur:ur=us.toList.drop (o+1):=by
      have:=congrArg List.tail e2
      simpa using this.symm
     subst hvr hur
     have ih:=eqPVs_run d fs (o+1) h2 h4 r2 r4
     have hp:=ekOf_one h1 c.w
     have heq:=eqPV_run h1 h3 r1 r3 d
     simp only [Op.eqFields,if_pos hf1,Sem.run_bind,part,hp,Result.andThen_ok,Bool.false_eq_true,if_false,hv,hu,Sem.run_pure,heq,Sem.run_ite,ih]
     cases a<;>simp
   · cases hk
theorem and15 (a:Int) (h1:0≤a) (h2:a<256):IntKind.u8.wrap ((BitVec.ofInt 8 a &&& BitVec.ofInt 8 15).toNat:Nat)=a % 16:=by
 obtain ⟨n,rfl⟩:=Int.eq_ofNat_of_zero_le h1
 have h: ∀ n<256,IntKind.u8.wrap ((BitVec.ofInt 8 (n:Nat) &&& BitVec.ofInt 8 15).toNat:Nat)=((n:Nat):Int) % 16:=by decide +kernel
 exact h n (by omega)
theorem xor64 (a b:Int) (h1:0≤a) (h2:0≤b) (h3:a≤9223372036854775807) (h4:b≤9223372036854775807):IntKind.i64.wrap ((BitVec.ofInt 64 a ^^^ BitVec.ofInt 64 b).toNat:Nat)=((a.toNat ^^^ b.toNat:Nat):Int):=by
 obtain ⟨n,rfl⟩:=Int.eq_ofNat_of_zero_le h1
 obtain ⟨m,rfl⟩:=Int.eq_ofNat_of_zero_le h2
 have e:(BitVec.ofInt 64 (n:Int) ^^^ BitVec.ofInt 64 (m:Int)).toNat=n ^^^ m:=by
  rw [BitVec.toNat_xor,BitVec.toNat_ofInt,BitVec.toNat_ofInt]
  congr 1<;>omega
 have hx:n ^^^ m<2 ^ 63:=Nat.xor_lt_two_pow (by omega) (by omega)
 rw [e]
 simp only [Int.toNat_natCast]
 exact inR.wrap (k:= .i64) (by unfold inR;omega)
theorem bin_sound {c:Cx} {op:BinOp} {t:TypeId} {x y:PV} {v u:Value} {K:PV→Prop} (h:aBin' P op t x y K) (hx:Rep x c v) (hy:Rep y c u) (ox oy:Operand) :
 ∃ v' r,(do eqGuard op t ox oy v u;binOp op t v u:Sem Value).run P c.w= .ok v' c.w∧Rep r c v'∧K r:=by
 have agg: ∀ {xs ys:List PV} {b:Bool},(match eksOf P t with|some ks=>(match eqPVs ks xs ys with|some b'=>some b'|none=>none)|none=>none)=some b→Rep (.agg xs) c v→Rep (.agg ys) c u →
  ∃ vs us,v= .agg vs∧u= .agg us∧(Op.equalIn 10000 t v u).run P c.w= .ok b c.w∧(eqGuard op t ox oy v u).run P c.w= .ok () c.w:=by
  intro xs ys b hb hx2 hy2
  unfold Rep at hx2 hy2
  obtain ⟨vs,hv2,hx2⟩:=hx2
  obtain ⟨us,hu2,hy2⟩:=hy2
  cases hk:eksOf P t with
  | none=>rw [hk] at hb;cases hb
  | some ks =>
    rw [hk] at hb
    simp only at hb
    unfold eksOf at hk
    cases hu:P.underlying t with
    | none=>rw [hu] at hk;cases hk
    | some td =>
      rw [hu] at hk
      cases td<;>simp only at hk<;>first|(cases hk;done)|skip
      rename_i fs
      split at hk
      · cases hk
      · rename_i hg
        simp only [Bool.or_eq_true,not_or,Bool.not_eq_true] at hg
        cases he:eqPVs ks xs ys with
        | none=>rw [he] at hb;cases hb
        | some b' =>
          rw [he] at hb
          simp only [Option.some.injEq] at hb
          subst hb
          have hfs:P.fieldsOf t=fs:=by simp [Program.fieldsOf,hu]
          refine ⟨vs,us,hv2,hu2,?_,by rw [hv2,hu2];exact run_eqGuard_agg _ _ _ _ _ _ _ hg.2⟩
          rw [hv2,hu2,run_equalIn_agg _ 9999 t vs us (by rw [hfs,hu]) hg.1,hfs]
          exact eqPVs_run 9998 fs.toList 0 hk he (by simpa using hx2) (by simpa using hy2)
 have base:aBin P op t x y K→ ∃ v' r,(do eqGuard op t ox oy v u;binOp op t v u:Sem Value).run P c.w= .ok v' c.w∧Rep r c v'∧K r:=by
  intro hB
  cases x<;>cases y<;>(try (cases op<;>simp only [aBin] at hB<;>done))
  case int.int k a k' b =>
   unfold Rep at hx hy
   subst hx hy
   cases op<;>simp only [aBin] at hB<;>first|(exact hB.elim)|skip
   case add =>
    obtain ⟨rfl,h1,h2⟩:=hB
    exact ⟨_,_,by simp [eqGuard_add,binOp_add,Op.intArith,h1.wrap];rfl,by unfold Rep;rfl,h2⟩
   case sub =>
    obtain ⟨rfl,h1,h2⟩:=hB
    exact ⟨_,_,by simp [eqGuard_sub,binOp_sub,Op.intArith,h1.wrap];rfl,by unfold Rep;rfl,h2⟩
   case mul =>
    obtain ⟨rfl,h1,h2⟩:=hB
    exact ⟨_,_,by simp [eqGuard_mul,binOp_mul,Op.intArith,h1.wrap];rfl,by unfold Rep;rfl,h2⟩
   case shr =>
    obtain ⟨rfl,rfl,h4⟩:=hB
    refine ⟨_,_,?_,by unfold Rep;rfl,h4⟩
    have e:a.fdiv 16=a / 16:=Int.fdiv_eq_ediv_of_nonneg a (by decide)
    simp [eqGuard_shr,binOp_shr,Op.shift,IntKind.bits,e]
   case and =>
    obtain ⟨rfl,rfl,h1,h2,rfl,h4⟩:=hB
    refine ⟨_,_,?_,by unfold Rep;rfl,h4⟩
    have e:=and15 a h1 h2
    simp only [eqGuard_and,binOp_and,Op.intBits,Sem.run_bind,Sem.run_pure,Result.andThen_ok]
    rw [show IntKind.u8.bits=8 from rfl,e]
   case xor =>
    obtain ⟨rfl,rfl,h1,h2,h3,h4,h5⟩:=hB
    refine ⟨_,_,?_,by unfold Rep;rfl,h5⟩
    have e:=xor64 a b h1 h2 h3 h4
    simp only [eqGuard_xor,binOp_xor,Op.intBits,Sem.run_bind,Sem.run_pure,Result.andThen_ok]
    rw [show IntKind.i64.bits=64 from rfl,e]
   case quo =>
    obtain ⟨rfl,h1,h2,h3,h4⟩:=hB
    refine ⟨_,_,?_,by unfold Rep;rfl,h4⟩
    have hb:b≠0:=by omega
    have e:a.tdiv b=a / b:=Int.tdiv_eq_ediv_of_nonneg h1
    simp [eqGuard_quo,binOp_quo,Op.intDiv,hb,e,h3.wrap]
   case rem =>
    obtain ⟨rfl,h1,h2,h4⟩:=hB
    refine ⟨_,_,?_,by unfold Rep;rfl,h4⟩
    have hb:b≠0:=by omega
    have e:a.tmod b=a % b:=Int.tmod_eq_emod_of_nonneg h1
    simp [eqGuard_rem,binOp_rem,Op.intDiv,hb,e]
   all_goals
    obtain ⟨rfl,hB⟩:=hB
    refine ⟨_,_,?_,by unfold Rep;rfl,hB⟩
    first
    | (simp [eqGuard_at_int,binOp_eql];done)
    | (simp [eqGuard_at_int,binOp_neq];done)
    | (simp [eqGuard_at_int,binOp_lss];done)
    | (simp [eqGuard_at_int,binOp_leq];done)
    | (simp [eqGuard_at_int,binOp_gtr];done)
    | (simp [eqGuard_at_int,binOp_geq];done)
    | (simp [eqGuard_at_int,binOp,Op.intCmp];rfl)
  case str.str l m =>
   unfold Rep at hx hy
   subst hx hy
   have hsl:(ByteArray.mk l.toArray).size=l.length:=by show l.toArray.size=_;simp
   have hsm:(ByteArray.mk m.toArray).size=m.length:=by show m.toArray.size=_;simp
   have happ:ByteArray.mk l.toArray++ByteArray.mk m.toArray=⟨(l++m).toArray⟩:=by
    have:(ByteArray.mk l.toArray++ByteArray.mk m.toArray).data=(l++m).toArray:=by rw [ByteArray.data_append];simp
    rw [← this]
   cases op<;>simp only [aBin] at hB<;>first|(exact hB.elim)|skip
   case add =>
    refine ⟨.string ⟨(l++m).toArray⟩,_,?_,by unfold Rep;rfl,hB.2⟩
    have: ¬ ((l.length:Int)+(m.length:Int) > 9223372036854775807):=by have:=hB.1;omega
    simp [eqGuard_at_string,binOp,Op.stringOp,hsl,hsm,happ]
    omega
   all_goals
    refine ⟨_,_,?_,by unfold Rep;rfl,hB⟩
    simp [eqGuard_at_string,binOp,Op.stringOp,mk_toList']
    try (rw [Bool.eq_iff_iff];simp;done)
  case bool.bool a b =>
   unfold Rep at hx hy
   subst hx hy
   cases op<;>simp only [aBin] at hB<;>first|(exact hB.elim)|skip
   all_goals
    obtain ⟨hu,hB⟩:=hB
    refine ⟨_,_,?_,by unfold Rep;rfl,hB⟩
    have he:(Op.equalIn 10000 t (.bool a) (.bool b)).run P c.w= .ok (a == b) c.w:=run_equalIn_bool' _ _ _ _ _ hu
    simp [eqGuard_at_bool,binOp,Op.equal,Op.maxDepth,he]
  all_goals (cases op<;>exact hB.elim)
 cases op<;>(try exact base h)
 · -- eql
   cases x<;>cases y<;>(try exact base h)
   rename_i xs ys
   simp only [aBin'] at h
   cases hk:eksOf P t with
   | none=>rw [hk] at h;exact h.elim
   | some ks =>
     rw [hk] at h
     simp only at h
     cases he:eqPVs ks xs ys with
     | none=>rw [he] at h;exact h.elim
     | some b =>
       rw [he] at h
       obtain ⟨vs,us,rfl,rfl,h1,h2⟩:=agg (b:=b) (by rw [hk];simp only [he]) hx hy
       exact ⟨.bool b,_,by simp only [Sem.run_bind,h2,Result.andThen_ok,run_eql_struct,h1],by unfold Rep;rfl,h⟩
 · -- neq
   cases x<;>cases y<;>(try exact base h)
   rename_i xs ys
   simp only [aBin'] at h
   cases hk:eksOf P t with
   | none=>rw [hk] at h;exact h.elim
   | some ks =>
     rw [hk] at h
     simp only at h
     cases he:eqPVs ks xs ys with
     | none=>rw [he] at h;exact h.elim
     | some b =>
       rw [he] at h
       obtain ⟨vs,us,rfl,rfl,h1,h2⟩:=agg (b:=b) (by rw [hk];simp only [he]) hx hy
       exact ⟨.bool (!b),_,by simp only [Sem.run_bind,h2,Result.andThen_ok,run_neq_struct,h1],by unfold Rep;rfl,h⟩
def aUn (op:UnOp) (x:PV) (K:PV→Prop):Prop :=
 match op,x with
 | .not,.bool b=>K (.bool (!b))
 | .neg,.int k n=>inR k (-n)∧K (.int k (-n))
 | _,_=>False
theorem un_sound {c:Cx} {op:UnOp} {x:PV} {v:Value} {K:PV→Prop} (h:aUn op x K) (hx:Rep x c v): ∃ v' r,(Op.unary op v).run P c.w= .ok v' c.w∧Rep r c v'∧K r:=by
 cases op<;>cases x<;>simp only [aUn] at h<;>first|(exact h.elim)|skip
 all_goals
  unfold Rep at hx
  subst hx
 · exact ⟨_,_,by simp [Op.unary,Op.intArith,h.1.wrap];rfl,by unfold Rep;rfl,h.2⟩
 · exact ⟨_,_,by simp [Op.unary];rfl,by unfold Rep;rfl,h⟩
end
end Go.Proofs.YtnbjogilidfkdaaGreat

/- Abstract operations: structs built, slices made and appended to, lengths, parts of values. -/
namespace Go.Proofs.YtnbjogilidfkdaaGreat
set_option maxRecDepth 100000
set_option linter.unusedVariables false
set_option linter.unusedSimpArgs false
open Go.RowKit
section
variable {P:Program}
def RepP (c:Cx):List (Nat×PV)→List (Nat×Value)→Prop
 | [],[]=>True
 | (i,u)::us,(j,v)::vs=>i=j∧Rep u c v∧RepP c us vs
 | _,_=>False
def plOf (P:Program) (t:TypeId):Option (List (Nat×Nat)) :=
 match P.underlying t with
 | some (.struct fields)=>fields.toList.mapM (fun f=>(P.info? f.type).map fun i=>(f.offset,i.size))
 | _=>none
def bldPV (pl:List (Nat×Nat)):List PV→List (Nat×PV)→Option (List PV)
 | zs,[]=>some zs
 | zs,(i,u)::rest=>match pl[i]? with
   | some (off,1)=>if u.isCell=true∧off<zs.length then bldPV pl (zs.set off u) rest else none
   | _=>none
def aBuild (P:Program) (t:TypeId) (parts:List (Nat×PV)) (K:PV→Prop):Prop :=
 match zeroOf P t,plOf P t with
 | some zs,some pl=>(match bldPV pl zs parts with
   | some cs=>K (.agg cs)
   | none=>False)
 | _,_=>False
theorem fill_sound {c:Cx} {n:Nat} (hn:Names c n) (pl:List (Nat×Nat)): ∀ (us:List (Nat×PV)) (vs:List (Nat×Value)) (zs:List PV) (cells:Array Value) {cs:List PV},RepP c us vs→RepL zs c cells.toList→bldPV pl zs us=some cs →
 ∃ cells',Instr.fill (pl.toArray[·]?) cells vs=some cells'∧RepL cs c cells'.toList
 | [],[],zs,cells,cs,_,hz,hb=>by
   simp only [bldPV,Option.some.injEq] at hb
   subst hb
   exact ⟨cells,rfl,hz⟩
 | [],_::_,_,_,_,h,_,_=>by simp [RepP] at h
 | _::_,[],_,_,_,h,_,_=>by simp [RepP] at h
 | (i,u)::us,(j,v)::vs,zs,cells,cs,h,hz,hb=>by
  simp only [RepP] at h
  obtain ⟨rfl,hu,h⟩:=h
  simp only [bldPV] at hb
  cases hp:pl[i]? with
  | none=>rw [hp] at hb;cases hb
  | some q =>
    obtain ⟨off,sz⟩:=q
    rw [hp] at hb
    have hsz:sz=1:=by
     match sz,hb with
     | 1,_=>rfl
    subst hsz
    simp only at hb
    split at hb
    · rename_i hc
      have ho:=oneCell_of_rep hc.1 hn.2 hu
      have hv:v.cells= #[v]:=by cases v<;>first|rfl|cases ho
      have hl:=hz.length
      have hlt:off<cells.size:=by have:=hc.2;simp at hl;omega
      obtain ⟨cells',h1,h2⟩:=fill_sound hn pl us vs (zs.set off u) (cells.setIfInBounds off v) h (by rw [Array.toList_setIfInBounds];exact hz.set off hu) hb
      refine ⟨cells',?_,h2⟩
      have hp':pl.toArray[i]?=some (off,1):=by simpa using hp
      rw [← h1]
      simp only [Instr.fill,hp',hv]
      rw [if_neg (by simp;omega)]
      simp
    · cases hb
theorem build_sound {c:Cx} {n:Nat} (hn:Names c n) {t:TypeId} {us:List (Nat×PV)} {vs:Array (Nat×Value)} {K:PV→Prop} (h:aBuild P t us K) (hp:RepP c us vs.toList) :
 ∃ v r,(Instr.build t vs).run P c.w= .ok v c.w∧Rep r c v∧K r:=by
 unfold aBuild at h
 cases hz:zeroOf P t with
 | none=>rw [hz] at h;exact h.elim
 | some zs =>
 cases hl:plOf P t with
 | none=>rw [hz,hl] at h;exact h.elim
 | some pl =>
 rw [hz,hl] at h
 simp only at h
 cases hb:bldPV pl zs us with
 | none=>rw [hb] at h;exact h.elim
 | some cs =>
 rw [hb] at h
 unfold zeroOf at hz
 cases hi:P.info? t with
 | none=>rw [hi] at hz;cases hz
 | some i =>
 rw [hi] at hz
 simp only [Option.bind_some] at hz
 cases hiz:i.zero with
 | none=>rw [hiz] at hz;cases hz
 | some z =>
 rw [hiz] at hz
 simp only at hz
 split at hz
 · simp only [Option.some.injEq] at hz
   subst hz
   unfold plOf at hl
   cases hu:P.underlying t with
   | none=>rw [hu] at hl;cases hl
   | some d =>
     rw [hu] at hl
     cases d<;>simp only at hl<;>first|(cases hl;done)|skip
     rename_i fields
     obtain ⟨cells',h1,h2⟩:=fill_sound hn pl us vs.toList _ z.cells hp (repL_pvOf c z.cells.toList) hb
     refine ⟨.agg cells',.agg cs,run_build c.w t vs cells' ?_,by unfold Rep;exact ⟨cells',rfl,h2⟩,h⟩
     unfold Program.built
     simp only [hi,hu,hiz,hl,h1]
 · cases hz
theorem foldl_zip (off:Nat): ∀ (xs:List Value) (j:Nat) (A:Array Value),off+j+xs.length≤A.size →
 (xs.zipIdx j).foldl (fun cs (p:Value×Nat)=>cs.setIfInBounds (off+p.2) p.1) A=(A.toList.take (off+j)++xs++A.toList.drop (off+j+xs.length)).toArray
 | [],j,A,_=>by simp
 | x::xs,j,A,h=>by
   have ih:=foldl_zip off xs (j+1) (A.setIfInBounds (off+j) x) (by simp at h ⊢;omega)
   have e:=list_seg_step A.toList (off+j) x xs (by simp at h ⊢;omega)
   simp only [List.zipIdx_cons,List.foldl_cons,ih]
   congr 1
   rw [show (x::xs).length=xs.length+1 from rfl,← e]
   simp [Nat.add_assoc]
theorem fill_rows {s:Nat}: ∀ (ps:List (Nat×Value)) (k:Nat) (A:Array Value),(∀ j p,ps[j]?=some p→p.1=k+j∧p.2.cells.size=s)→(k+ps.length) * s=A.size →
 Instr.fill (fun i=>some (i * s,s)) A ps=some (A.toList.take (k * s)++ps.flatMap (fun p=>p.2.cells.toList)).toArray
 | [],k,A,_,h=>by
   simp only [Instr.fill,List.flatMap_nil,List.append_nil]
   rw [List.take_of_length_le (by simp at h ⊢;omega)]
 | (i,v)::ps,k,A,hp,h=>by
  obtain ⟨rfl,hv⟩:=hp 0 (i,v) rfl
  simp only at hv
  have e1:(i+(((i,v)::ps).length)) * s=i * s+(s+ps.length * s):=by
   rw [List.length_cons,Nat.add_mul,Nat.add_mul];omega
  simp only [Nat.add_zero] at h
  rw [e1] at h
  have hf:=foldl_zip (i * s) v.cells.toList 0 A (by simp [hv];omega)
  simp only [Nat.add_zero,Array.length_toList,hv] at hf
  have hsz:((A.toList.take (i * s)++v.cells.toList++A.toList.drop (i * s+s)).toArray).size=A.size:=by simp [hv];omega
  have ih:=fill_rows ps (i+1) (A.toList.take (i * s)++v.cells.toList++A.toList.drop (i * s+s)).toArray (fun j p hj=>by
   have:=hp (j+1) p (by simpa using hj)
   simp only [Nat.add_zero] at this
   exact ⟨by omega,this.2⟩) (by rw [hsz,Nat.add_mul,Nat.add_mul];omega)
  simp only [Instr.fill,Nat.add_zero,hv,ne_eq,not_true_eq_false,decide_false,Bool.false_or]
  rw [if_neg (by simp;omega)]
  have hz:v.cells.zipIdx.foldl (fun cs x=>match x with|(c,j)=>cs.setIfInBounds (i * s+j) c) A=(A.toList.take (i * s)++v.cells.toList++A.toList.drop (i * s+s)).toArray:=by
   rw [← hf,← Array.foldl_toList,Array.toList_zipIdx]
  rw [hz,ih]
  congr 2
  have l1:(A.toList.take (i * s)++v.cells.toList).length=(i+1) * s:=by rw [List.length_append,List.length_take];simp [hv,Nat.add_mul];omega
  rw [← l1,List.take_left,List.flatMap_cons,List.append_assoc]
def bsPV (s:Nat):Nat→List (Nat×PV)→Option (List (List PV))
 | _,[]=>some []
 | k,(i,u)::rest=>if i=k then (match cellsPV u,bsPV s (k+1) rest with
   | some us,some es=>if us.length=s then some (us::es) else none
   | _,_=>none) else none
theorem bsPV_sound {c:Cx} {n:Nat} (hn:Names c n) {s:Nat}: ∀ {us:List (Nat×PV)} {vs:List (Nat×Value)} {k:Nat} {es:List (List PV)},RepP c us vs→bsPV s k us=some es →
 (∀ j p,vs[j]?=some p→p.1=k+j∧p.2.cells.size=s)∧RepL es.flatten c (vs.flatMap fun p=>p.2.cells.toList)∧cellsOk es s∧es.length=vs.length
 | [],[],k,es,_,hb=>by
   simp only [bsPV,Option.some.injEq] at hb
   subst hb
   exact ⟨by simp,by simp [RepL.nil_iff],⟨by simp,by simp⟩,rfl⟩
 | [],_::_,_,_,h,_=>by simp [RepP] at h
 | _::_,[],_,_,h,_=>by simp [RepP] at h
 | (i,u)::us,(j,v)::vs,k,es,h,hb=>by
  simp only [RepP] at h
  obtain ⟨rfl,hu,h⟩:=h
  simp only [bsPV] at hb
  split at hb
  · rename_i hik
    subst hik
    cases hc:cellsPV u with
    | none=>rw [hc] at hb;cases hb
    | some ws =>
    cases hr:bsPV s (i+1) us with
    | none=>rw [hc,hr] at hb;cases hb
    | some es' =>
    rw [hc,hr] at hb
    simp only at hb
    split at hb
    · rename_i hl
      simp only [Option.some.injEq] at hb
      subst hb
      obtain ⟨g1,g2,g3⟩:=cellsPV_sound hc hn.2 hu
      obtain ⟨i1,i2,i3,i4⟩:=bsPV_sound hn h hr
      have hlen:=g1.length
      refine ⟨fun j p hj=>?_,?_,⟨?_,?_⟩,by simp [i4]⟩
      · cases j with
        | zero =>
          obtain rfl:(i,v)=p:=by simpa using hj
          exact ⟨rfl,by simp at hlen;simp;omega⟩
        | succ j =>
          obtain ⟨a1,a2⟩:=i1 j p (by simpa using hj)
          exact ⟨by omega,a2⟩
      · rw [List.flatten_cons,List.flatMap_cons]
        exact g1.append i2
      · intro x hx
        rcases List.mem_cons.1 hx with rfl|hx
        · exact hl
        · exact i3.1 x hx
      · intro x hx
        rw [List.flatten_cons,List.mem_append] at hx
        rcases hx with hx|hx
        · exact g3 x hx
        · exact i3.2 x hx
    · cases hb
  · cases hb
def aBSlice (P:Program) (t:TypeId) (len:Nat) (parts:List (Nat×PV)) (mem:Mem) (n:Nat) (K:PV→Mem→Nat→Prop):Prop :=
 match elOf P t with
 | some (e,s,_)=>(match bsPV s 0 parts with
   | some es=>parts.length=len∧len * s≤16777216∧((es.map (·.map (resC mem))).all fun x=>x.all fun u=>u.isCell && u.nmb 0)=true ∧
      K (.own n) (upd (frz mem (es.flatten.flatMap ownsC)) n (some (.row e s (es.map (·.map (resC mem)))))) (n+1)
   | none=>False)
 | none=>False
theorem flatten_map_map {α β:Type} (f:α→β): ∀ es:List (List α),(es.map (·.map f)).flatten=es.flatten.map f :=
 fun _=>List.map_flatten.symm
theorem bslice_sound {c:Cx} {mem:Mem} {n:Nat} {t:TypeId} {len:Nat} {us:List (Nat×PV)} {vs:Array (Nat×Value)} {K:PV→Mem→Nat→Prop} (h:aBSlice P t len us mem n K) (hp:RepP c us vs.toList) (hI:InvM c mem) (hn:Names c n) :
 Out P (Instr.buildSlice t len vs) c mem n K:=by
 unfold aBSlice at h
 cases he:elOf P t with
 | none=>rw [he] at h;exact h.elim
 | some q =>
 obtain ⟨e,s,by_⟩:=q
 rw [he] at h
 simp only at h
 cases hb:bsPV s 0 us with
 | none=>rw [hb] at h;exact h.elim
 | some es =>
 rw [hb] at h
 obtain ⟨hlen,hle,hall,hK⟩:=h
 obtain ⟨inf,z,k1,k2,k3,k4,k5,k6,k7⟩:=elOf_run he
 obtain ⟨i1,i2,i3,i4⟩:=bsPV_sound hn hp hb
 obtain ⟨c1,w1,r1,st⟩:=Step.frz (es.flatten.flatMap ownsC) hI hn
 have hvl:vs.toList.length=us.length:=by
  have: ∀ {us:List (Nat×PV)} {vs:List (Nat×Value)},RepP c us vs→vs.length=us.length:=by
   intro us
   induction us with
   | nil=>intro vs h;cases vs with
     | nil=>rfl
     | cons v vs=>simp [RepP] at h
   | cons u us ih=>intro vs h;cases vs with
     | nil=>simp [RepP] at h
     | cons v vs=>simp only [RepP] at h;simp [ih h.2.2]
  exact this hp
 have i2':RepL (es.flatten.map (resC mem)) c1 (vs.toList.flatMap fun p=>p.2.cells.toList):=by
  refine repL_map _ (fun u hu v hv=>rep_resC st.inv (fun i hi es'=>frz_fits mem _ i (by simp only [List.mem_flatMap];exact ⟨u,hu,hi⟩) es') hv) (RepL.mono _ st.le i2)
 simp only [List.all_eq_true,Bool.and_eq_true] at hall
 have hcells:cellsOk (es.map (·.map (resC mem))) s:=by
  refine ⟨fun x hx=>?_,fun u hu=>?_⟩
  · obtain ⟨y,hy,rfl⟩:=List.mem_map.1 hx
    rw [List.length_map];exact i3.1 y hy
  · obtain ⟨x,hx,hu⟩:=List.mem_flatten.1 hu
    exact (hall x hx u hu).1
 have hnmb:nmbL 0 (es.flatten.map (resC mem))=true:=by
  rw [nmbL_all]
  intro u hu
  rw [← flatten_map_map] at hu
  obtain ⟨x,hx,hu⟩:=List.mem_flatten.1 hu
  exact (hall x hx u hu).2
 have hlen2:(vs.toList.flatMap fun p=>p.2.cells.toList).length=len * s:=by
  rw [i2'.length,List.length_map,flatten_length i3.1,i4,hvl,hlen]
 let cells:Array Value:=(vs.toList.flatMap fun p=>p.2.cells.toList).toArray
 have hcz:cells.size=len * s:=by simpa [cells] using hlen2
 have hown:=World.ownsRow_lit (base:=0) (e:=e) (size:=s) c1.w cells len (Nat.zero_le _) (by
  unfold maxLen
  have:len≤len * s:=Nat.le_mul_of_pos_right _ k7
  omega) hcz
 have hel:(es.map (·.map (resC mem))).length=len:=by rw [List.length_map,i4,hvl,hlen]
 obtain ⟨c',q1,q2,q3,q4⟩:=new_row st.inv st.free none (w':=c1.w.alloc (.cells cells e)) (v:= .slice (some ⟨c1.w.heap.size,0,none⟩) len len) (e:=e) (s:=s) (es:=es.map (·.map (resC mem))) (vs:=cells.toList) rfl rfl rfl (by simp)
  (fun i hi=>by cases hi) (fun b hb _=>heap_alloc_lt _ _ hb) (by rw [hel];exact hown) (by rw [flatten_map_map];simpa [cells] using i2'.to_data hnmb) hcells
  (fun b hb=> .inr (by simp only [Value.ownBlock,Option.some.injEq] at hb;omega))
 refine ⟨_,_,c',_,_,?_,hK,st.trans q2,q3⟩
 rw [q1]
 have hfill: ∀ A:Array Value,A.size=len * s→Instr.fill (fun i=>some (i * s,s)) A vs.toList=some cells:=by
  intro A hA
  have:=fill_rows (s:=s) vs.toList 0 A i1 (by rw [hvl,hlen,hA,Nat.zero_add])
  simpa using this
 have hle': ¬ (len * s > 2 ^ 24):=by omega
 have hz:(zeroValue e).run P c.w= .ok z c.w:=by simp [zeroValue,typeInfo,k2,k3]
 by_cases h0:len * s=0
 · simp only [Instr.buildSlice,Sem.run_bind,run_underlying k1,Result.andThen_ok,sizeOf,typeInfo,run_program,k2,k4,Sem.run_pure,Sem.run_ite,if_neg hle',if_pos h0]
   rw [hfill _ (by simp)]
   simp only [newRow,Sem.run_bind,run_newObj,Result.andThen_ok,Sem.run_pure,w1]
   rfl
 · simp only [Instr.buildSlice,Sem.run_bind,run_underlying k1,Result.andThen_ok,sizeOf,typeInfo,run_program,k2,k4,Sem.run_pure,Sem.run_ite,if_neg hle',if_neg h0,hz]
   rw [hfill _ (by simp)]
   simp only [newRow,Sem.run_bind,run_newObj,Result.andThen_ok,Sem.run_pure,w1]
   rfl
def newsOf (mem:Mem):PV→Option (List (List PV))
 | .nil=>some []
 | .seq ns=>some ns
 | .own i=>match mem i with
   | some (.row _ _ ns)=>some ns
   | some (.fro ns)=>some ns
   | _=>none
 | _=>none
def destOf (mem:Mem) (e:TypeId) (s:Nat):PV→Option (Option Nat×List (List PV))
 | .nil=>some (none,[])
 | .own i=>match mem i with
   | some (.row e' s' es)=>if e'=e∧s'=s then some (some i,es) else none
   | _=>none
 | _=>none
def aApp (P:Program) (t:TypeId) (x y:PV) (mem:Mem) (n:Nat) (K:PV→Mem→Nat→Prop):Prop :=
 match elOf P t with
 | some (e,s,by_)=>(match destOf mem e s x,newsOf mem y with
   | some (old,es),some ns=>(∀ z ∈ ns,z.length=s)∧es.length+ns.length≤9223372036854775807∧(es.length+ns.length) * by_≤140737488355328 ∧
      K (.own n) (upd (drp mem old) n (some (.row e s (es++ns)))) (n+1)
   | _,_=>False)
 | none=>False
theorem one_of_data {c:Cx}: ∀ {us:List PV} {vs:List Value},(∀ u ∈ us,u.isCell=true)→RepL us c.data vs→ ∀ v ∈ vs,v.oneCell'=true
 | [],vs,_,h=>by rw [RepL.nil_iff] at h;subst h;simp
 | u::us,vs,hc,h=>by
   rw [RepL.cons_iff] at h
   obtain ⟨x,xs,rfl,h1,h2⟩:=h
   intro v hv
   rcases List.mem_cons.1 hv with rfl|hv
   · exact oneCell_of_rep (hc u (by simp)) (fun i v hi=>by cases hi) h1
   · exact one_of_data (fun t ht=>hc t (by simp [ht])) h2 v hv
theorem seq_reads {c:Cx} {mem:Mem} (hI:InvM c mem) {ns:List (List PV)} {v:Value} (hr:Rep (.seq ns) c v) {s:Nat} (hs: ∀ z ∈ ns,z.length=s) :
 ∃ A cap vals,v= .slice A ns.length cap∧RepL ns.flatten c.data vals∧(∀ u ∈ ns.flatten,u.isCell=true)∧Reads c.w c.w.heap.size s A ns.length vals:=by
 unfold Rep at hr
 obtain ⟨a,cap,rfl,h1,h2,h3⟩:=hr
 rcases h3 with rfl|⟨b,o,s',rfl,hb,hE⟩
 · exact ⟨a,cap,[],rfl,by simp [RepL.nil_iff],by simp,⟨by simp,fun h=>absurd h (by simp)⟩⟩
 · obtain ⟨g1,g2⟩:=RepE.flat.1 hE
   obtain ⟨vals,g3,g4,g5⟩:=g2.vals
   refine ⟨_,cap,vals,rfl,g3,g5,⟨?_,fun _=>⟨⟨b,o,none⟩,rfl,hI.1.lt b hb,fun j u hj=>by rw [addr_add];exact g4 j u hj⟩⟩⟩
   rw [g3.length,flatten_length hs]
theorem news_sound {c:Cx} {mem:Mem} (hI:InvM c mem) {y:PV} {ns:List (List PV)} {v:Value} (h:newsOf mem y=some ns) (hr:Rep y c v) {s:Nat} (hs: ∀ z ∈ ns,z.length=s) :
 ∃ A cap vals,v= .slice A ns.length cap∧RepL ns.flatten c.data vals∧(∀ u ∈ ns.flatten,u.isCell=true)∧Reads c.w c.w.heap.size s A ns.length vals:=by
 cases y with
 | nil=>simp only [newsOf,Option.some.injEq] at h;subst h;exact seq_reads hI (rep_nil hr) hs
 | seq ms=>simp only [newsOf,Option.some.injEq] at h;subst h;exact seq_reads hI hr hs
 | own i =>
   simp only [newsOf] at h
   cases hm:mem i with
   | none=>rw [hm] at h;cases h
   | some mb =>
     rw [hm] at h
     cases mb with
     | fro ms=>simp only [Option.some.injEq] at h;subst h;exact seq_reads hI (rep_fro hI hm hr) hs
     | row e s' ms =>
       simp only [Option.some.injEq] at h
       subst h
       obtain ⟨_,S,h1,_,_⟩:=hI
       obtain ⟨u,vs,e1,e2,e3,e4,_⟩:=h1 i _ hm
       unfold Rep at hr
       rw [e1] at hr
       cases hr
       have hlen:=flatten_length hs
       have hvl:=e3.length
       rcases e2.2 with ⟨rfl,hz⟩|⟨g,cap,cur,rfl,w1,w2,w3,w4,w5,w6⟩
       · refine ⟨none,0,vs,by rw [hz],e3,e4.2,⟨by rw [hvl,hlen],fun hp=>by omega⟩⟩
       · refine ⟨_,cap,vs,rfl,e3,e4.2,⟨by rw [hvl,hlen],fun _=>⟨⟨g,0,none⟩,rfl,(Array.getElem?_eq_some_iff.1 w2).1,e2.cells rfl⟩⟩⟩
     | _=>cases h
 | _=>simp [newsOf] at h
theorem app_sound {c:Cx} {mem:Mem} {n:Nat} {t ty:TypeId} {x y:PV} {v u:Value} {K:PV→Mem→Nat→Prop} (h:aApp P t x y mem n K) (hx:Rep x c v) (hy:Rep y c u) (hI:InvM c mem) (hn:Names c n) :
 Out P (Builtin.append_ #[t,t] ty #[v,u]) c mem n K:=by
 unfold aApp at h
 cases he:elOf P t with
 | none=>rw [he] at h;exact h.elim
 | some q =>
 obtain ⟨e,s,by_⟩:=q
 rw [he] at h
 simp only at h
 cases hd:destOf mem e s x with
 | none=>rw [hd] at h;exact h.elim
 | some q =>
 obtain ⟨old,es⟩:=q
 cases hns:newsOf mem y with
 | none=>rw [hd,hns] at h;exact h.elim
 | some ns =>
 rw [hd,hns] at h
 obtain ⟨hs,hl1,hl2,hK⟩:=h
 obtain ⟨inf,z,k1,k2,k3,k4,k5,k6,k7⟩:=elOf_run he
 obtain ⟨A,cap,vals,rfl,g1,g2,g3⟩:=news_sound hI hns hy hs
 have hv1:=one_of_data g2 g1
 have hdest: ∃ xs,c.w.ownsRow 0 e s v es.length xs∧RepL es.flatten c.data xs∧cellsOk es s∧(∀ i,old=some i→mem i≠none) ∧
  (∀ b,v.ownBlock=some b→ ∃ i mb S,old=some i∧mem i=some mb∧MRep c i S mb∧S b):=by
  cases x with
  | nil =>
    simp only [destOf,Option.some.injEq,Prod.mk.injEq] at hd
    obtain ⟨rfl,rfl⟩:=hd
    unfold Rep at hx
    subst hx
    exact ⟨[],World.ownsRow_nil _ _ _ _,by simp [RepL.nil_iff],⟨by simp,by simp⟩,by simp,by simp [Value.ownBlock]⟩
  | own i =>
    simp only [destOf] at hd
    cases hm:mem i with
    | none=>rw [hm] at hd;cases hd
    | some mb =>
      rw [hm] at hd
      cases mb with
      | row e' s' es' =>
        simp only at hd
        split at hd
        · rename_i hh
          obtain ⟨rfl,rfl⟩:=hh
          simp only [Option.some.injEq,Prod.mk.injEq] at hd
          obtain ⟨rfl,rfl⟩:=hd
          obtain ⟨_,S,h1,_,_⟩:=hI
          obtain ⟨u',vs,e1,e2,e3,e4,e5⟩:=h1 i _ hm
          unfold Rep at hx
          rw [e1] at hx
          cases hx
          exact ⟨vs,e2,e3,e4,fun j hj=>by cases hj;simp [hm],fun b hb=>⟨i,_,_,rfl,hm,h1 i _ hm,by rw [e5];exact hb⟩⟩
        · cases hd
      | _=>cases hd
  | _=>simp [destOf] at hd
 obtain ⟨xs,d1,d2,d3,d4,d5⟩:=hdest
 obtain ⟨v',w',hrun,o1,o2,o3⟩:=run_append_any (P:=P) c.w 0 t ty e inf z s by_ k1 k2 k3 k4 k5 k6 k7 v es.length xs d1 c.w.heap.size A ns.length cap vals g3 hv1 (by unfold maxLen;omega) hl2 (Nat.zero_le _)
 obtain ⟨c',q1,q2,q3,q4⟩:=new_row hI hn old (w':=w') (v:=v') (e:=e) (s:=s) (es:=es++ns) (vs:=xs++vals) o2.os o2.tape o2.output o2.size d4
  (fun b hb hno=>o2.block b hb (fun hbe=>by
    obtain ⟨i,mb,S,a1,a2,a3,a4⟩:=d5 b hbe.symm
    exact hno i mb S a1 a2 a3 a4))
  (by rw [List.length_append];exact o1) (by rw [List.flatten_append];exact d2.append g1)
  ⟨fun x hx=>(List.mem_append.1 hx).elim (d3.1 x) (hs x),fun u hu=>by
   rw [List.flatten_append] at hu
   exact (List.mem_append.1 hu).elim (d3.2 u) (g2 u)⟩
  (fun b hb=>o3.elim (fun h=> .inl (d5 b (h ▸ hb))) (fun h=> .inr (by rw [h] at hb;cases hb;exact Nat.le_refl _)))
 exact ⟨v',_,c',_,_,by rw [q1];exact hrun,hK,q2,q3⟩
def aLen (P:Program) (t:TypeId) (mem:Mem) (x:PV) (K:PV→Prop):Prop :=
 match x with
 | .str l=>P.underlying t=some .string∧K (.int .i64 l.length)
 | .nil=>(elOf P t).isSome=true∧K (.int .i64 0)
 | .seq es=>(elOf P t).isSome=true∧K (.int .i64 es.length)
 | .own i=>(elOf P t).isSome=true∧(match mem i with
   | some (.row _ _ es)=>K (.int .i64 es.length)
   | some (.fro es)=>K (.int .i64 es.length)
   | _=>False)
 | .raw (.slice _ n _)=>(elOf P t).isSome=true∧K (.int .i64 n)
 | _=>False
theorem len_sound {c:Cx} {mem:Mem} (hI:InvM c mem) {t ty:TypeId} {x:PV} {v:Value} {K:PV→Prop} (h:aLen P t mem x K) (hx:Rep x c v) :
 ∃ v' r,(Builtin.len_ #[t] ty #[v]).run P c.w= .ok v' c.w∧Rep r c v'∧K r:=by
 have hsl: ∀ {a n cap},(elOf P t).isSome=true→(Builtin.len_ #[t] ty #[.slice a n cap]).run P c.w= .ok (.int .i64 n) c.w:=by
  intro a n cap he
  obtain ⟨⟨e,s,b⟩,he⟩:=Option.isSome_iff_exists.1 he
  obtain ⟨inf,z,k1,_⟩:=elOf_run he
  simp [Builtin.len_,run_underlying k1,goInt]
 unfold aLen at h
 cases x with
 | str l =>
   unfold Rep at hx
   subst hx
   refine ⟨.int .i64 l.length,_,?_,by unfold Rep;rfl,h.2⟩
   have:(ByteArray.mk l.toArray).size=l.length:=by show l.toArray.size=_;simp
   simp [Builtin.len_,run_underlying h.1,goInt,this]
 | nil =>
   unfold Rep at hx
   subst hx
   exact ⟨.int .i64 0,_,hsl h.1,by unfold Rep;rfl,h.2⟩
 | seq es =>
   unfold Rep at hx
   obtain ⟨a,cap,rfl,_⟩:=hx
   exact ⟨.int .i64 es.length,_,hsl h.1,by unfold Rep;rfl,h.2⟩
 | raw u =>
   cases u with
   | slice a n cap =>
     unfold Rep at hx
     subst hx
     exact ⟨.int .i64 n,_,hsl h.1,by unfold Rep;rfl,h.2⟩
   | _=>exact h.elim
 | own i =>
   obtain ⟨he,h⟩:=h
   cases hm:mem i with
   | none=>rw [hm] at h;exact h.elim
   | some mb =>
     rw [hm] at h
     cases mb with
     | row e s es =>
       obtain ⟨_,S,h1,_,_⟩:=hI
       obtain ⟨u,vs,e1,e2,_⟩:=h1 i _ hm
       unfold Rep at hx
       rw [e1] at hx
       cases hx
       have: ∃ a cap,v= .slice a es.length cap:=by
        rcases e2.2 with ⟨rfl,hz⟩|⟨g,cap,cur,rfl,_⟩
        · exact ⟨none,0,by rw [hz]⟩
        · exact ⟨_,_,rfl⟩
       obtain ⟨a,cap,rfl⟩:=this
       exact ⟨.int .i64 es.length,_,hsl he,by unfold Rep;rfl,h⟩
     | fro es =>
       have hx:=rep_fro hI hm hx
       unfold Rep at hx
       obtain ⟨a,cap,rfl,_⟩:=hx
       exact ⟨.int .i64 es.length,_,hsl he,by unfold Rep;rfl,h⟩
     | _=>exact h.elim
 | _=>exact h.elim
def aMax (f:Int→Int→Int):List PV→(PV→Prop)→Prop
 | [.int .i64 a,.int .i64 b],K=>K (.int .i64 (f a b))
 | [.int .i64 a,.int .i64 b,.int .i64 d],K=>K (.int .i64 (f (f a b) d))
 | _,_=>False
theorem max_sound {c:Cx} {xs:List PV} {vs:List Value} {K:PV→Prop} (h:aMax max xs K) (hx:RepL xs c vs) (ts:Array TypeId) (ty:TypeId) :
 ∃ v' r,(Builtin.max_ ts ty vs.toArray).run P c.w= .ok v' c.w∧Rep r c v'∧K r:=by
 have hm: ∀ a b:Int,(if b > a then b else a)=max a b:=by intro a b;rw [Int.max_def];split<;>split<;>omega
 match xs,h with
 | [.int .i64 a,.int .i64 b],h =>
   simp only [RepL.cons_iff,RepL.nil_iff] at hx
   obtain ⟨x,xs,rfl,h1,y,ys,rfl,h2,rfl⟩:=hx
   unfold Rep at h1 h2
   subst h1 h2
   exact ⟨_,_,by simp [Builtin.max_,Builtin.max2,hm];rfl,by unfold Rep;rfl,h⟩
 | [.int .i64 a,.int .i64 b,.int .i64 d],h => 
   simp only [RepL.cons_iff,RepL.nil_iff] at hx
   obtain ⟨x,xs,rfl,h1,y,ys,rfl,h2,z,zs,rfl,h3,rfl⟩:=hx
   unfold Rep at h1 h2 h3
   subst h1 h2 h3
   exact ⟨.int .i64 (max (max a b) d),_,by simp [Builtin.max_,Builtin.max2,hm,Int.max_assoc],by unfold Rep;rfl,h⟩
theorem min_sound {c:Cx} {xs:List PV} {vs:List Value} {K:PV→Prop} (h:aMax min xs K) (hx:RepL xs c vs) (ts:Array TypeId) (ty:TypeId) :
 ∃ v' r,(Builtin.min_ ts ty vs.toArray).run P c.w= .ok v' c.w∧Rep r c v'∧K r:=by
 have hm: ∀ a b:Int,(if b<a then b else a)=min a b:=by intro a b;rw [Int.min_def];split<;>split<;>omega
 match xs,h with
 | [.int .i64 a,.int .i64 b],h =>
   simp only [RepL.cons_iff,RepL.nil_iff] at hx
   obtain ⟨x,xs,rfl,h1,y,ys,rfl,h2,rfl⟩:=hx
   unfold Rep at h1 h2
   subst h1 h2
   exact ⟨_,_,by simp [Builtin.min_,Builtin.min2,hm];rfl,by unfold Rep;rfl,h⟩
 | [.int .i64 a,.int .i64 b,.int .i64 d],h => 
   simp only [RepL.cons_iff,RepL.nil_iff] at hx
   obtain ⟨x,xs,rfl,h1,y,ys,rfl,h2,z,zs,rfl,h3,rfl⟩:=hx
   unfold Rep at h1 h2 h3
   subst h1 h2 h3
   exact ⟨.int .i64 (min (min a b) d),_,by simp [Builtin.min_,Builtin.min2,hm,Int.min_assoc],by unfold Rep;rfl,h⟩
def aExtract (x:PV) (i:Nat) (K:PV→Prop):Prop :=
 match x with
 | .tup xs=>(match xs[i]? with
   | some u=>K u
   | none=>False)
 | _=>False
theorem extract_sound {c:Cx} {x:PV} {v:Value} {i:Nat} {K:PV→Prop} (h:aExtract x i K) (hx:Rep x c v): ∃ v' r,(Instr.extract v i).run P c.w= .ok v' c.w∧Rep r c v'∧K r:=by
 cases x with
 | tup xs =>
   simp only [aExtract] at h
   unfold Rep at hx
   obtain ⟨vs,rfl,hx⟩:=hx
   cases hu:xs[i]? with
   | none=>rw [hu] at h;exact h.elim
   | some u =>
     rw [hu] at h
     obtain ⟨v',h1,h2⟩:=hx.get i u hu
     have:vs[i]?=some v':=by rw [← Array.getElem?_toList];exact h1
     exact ⟨v',u,by simp [Instr.extract,this],h2,h⟩
 | _=>exact h.elim
def aField (P:Program) (t:TypeId) (x:PV) (f:Nat) (K:PV→Prop):Prop :=
 match fldOf P t f,x with
 | some (off,true),.agg cs=>(match cs[off]? with
   | some u=>K u
   | none=>False)
 | _,_=>False
theorem field_sound {c:Cx} {t:TypeId} {x:PV} {v:Value} {f:Nat} {K:PV→Prop} (h:aField P t x f K) (hx:Rep x c v): ∃ v' r,(Instr.field t v f).run P c.w= .ok v' c.w∧Rep r c v'∧K r:=by
 unfold aField at h
 cases hf:fldOf P t f with
 | none=>rw [hf] at h;exact h.elim
 | some q =>
   obtain ⟨off,b⟩:=q
   rw [hf] at h
   cases b with
   | false=>exact h.elim
   | true =>
     cases x with
     | agg cs =>
       simp only at h
       unfold Rep at hx
       obtain ⟨vs,rfl,hx⟩:=hx
       obtain ⟨fs,fd,i,h1,h2,h3,h4,h5,h6⟩:=fldOf_run hf
       obtain ⟨_,d,_,h7⟩:=h6 rfl
       cases hu:cs[off]? with
       | none=>rw [hu] at h;exact h.elim
       | some u =>
         rw [hu] at h
         obtain ⟨v',g1,g2⟩:=hx.get off u hu
         have:vs[off]?=some v':=by rw [← Array.getElem?_toList];exact g1
         exact ⟨v',u,by simp [Instr.field,run_underlying h1,h2,asAgg,part,h7,h3,this],g2,h⟩
     | _=>exact h.elim
end
end Go.Proofs.YtnbjogilidfkdaaGreat
