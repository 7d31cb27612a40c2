/- Sizes of tokens. Plain. -/
import Derived.Test.YtnbjogilidfkdaaGreatQK3

namespace Go.Proofs.YtnbjogilidfkdaaGreat
set_option maxRecDepth 100000
set_option linter.unusedVariables false
set_option linter.unusedSimpArgs false
open Go.RowKit
def bdP (N:Nat) (p:Bs×Bs):Prop:=p.1.length≤10∧p.2.length≤N
def bdT (N:Nat) (t:TokD):Prop:=t.name.length≤10∧t.value.length≤N∧t.pairs.length≤60∧ ∀ p ∈ t.pairs,bdP N p
theorem bdT_mono {N M:Nat} {t:TokD} (h:bdT N t) (hm:N≤M):bdT M t:=by
 obtain ⟨h1,h2,h3,h4⟩:=h
 exact ⟨h1,by omega,h3,fun p hp=>⟨(h4 p hp).1,by have:=(h4 p hp).2;omega⟩⟩
structure BdI (N:Nat) (x:TkI):Prop where
 v:stV x.s=true
 raw:x.raw.length≤N
 out: ∀ t ∈ x.out,bdT N t
 ps: ∀ p ∈ x.ps,bdP N p
theorem bd_snoc {N:Nat} {l:List TokD} {u:TokD} (h: ∀ t ∈ l,bdT N t) (hu:bdT N u): ∀ t ∈ l++[u],bdT N t:=by
 intro t ht
 rcases List.mem_append.1 ht with ht|ht
 · exact h t ht
 · obtain rfl:t=u:=by simpa using ht
   exact hu
theorem last_mem {g:Bs×Bs→Bs×Bs}: ∀ {l:List (Bs×Bs)} {p:Bs×Bs},p ∈ lastP g l→p ∈ l∨ ∃ q ∈ l,p=g q
 | [],p,h=>by cases h
 | [q],p,h=>by
   obtain rfl:p=g q:=by simpa [lastP] using h
   exact .inr ⟨q,by simp,rfl⟩
 | q::r::l,p,h=>by
   have h:p ∈ q::lastP g (r::l):=h
   rcases List.mem_cons.1 h with rfl|h
   · exact .inl (by simp)
   · rcases last_mem h with h|⟨u,hu,e⟩
     · exact .inl (List.mem_cons_of_mem _ h)
     · exact .inr ⟨u,List.mem_cons_of_mem _ hu,e⟩
theorem bd_step {N:Nat} {x y:TkI} {b:UInt8} (h:BdI N x) (e:tkStep x b=some y):BdI (N+1) y:=by
 obtain ⟨hv,hr,ho,hp⟩:=h
 have hv':=stV_step x.s b
 have ht:=stV_tag_len hv
 have ha:=stV_attr_len hv'
 have ho': ∀ t ∈ x.out,bdT (N+1) t:=fun t ht=>bdT_mono (ho t ht) (by omega)
 have hp': ∀ p ∈ x.ps,bdP (N+1) p:=fun p hq=>⟨(hp p hq).1,by have:=(hp p hq).2;omega⟩
 have hu:=unT_len x.raw
 have b1:bdT (N+1) (tkText (unT x.raw)):=⟨by simp [tkText],by show (unT x.raw).length≤_;omega,by simp [tkText],fun p hp=>by cases hp⟩
 have b3:bdT (N+1) (tkEnd x.s.tag):=⟨ht,by simp [tkEnd],by simp [tkEnd],fun p hp=>by cases hp⟩
 have b4:bdT (N+1) (tkCom x.raw):=⟨by simp [tkCom],by show x.raw.length≤_;omega,by simp [tkCom],fun p hp=>by cases hp⟩
 have b5:bdT (N+1) (tkScr x.raw.dropLast):=⟨by simp [tkScr],by show x.raw.dropLast.length≤_;rw [List.length_dropLast];omega,by simp [tkScr],fun p hp=>by cases hp⟩
 unfold tkStep at e
 generalize step x.s b=n at *
 split at e
 · cases e
 split at e
 · split at e
   · cases e
   · rename_i hl
     cases e
     refine ⟨hv',by dsimp only;omega,bd_snoc ho' ⟨ht,by simp [tkOpen],by show (unPs x.ps).length≤60;rw [unPs_len];omega,fun p hq=>?_⟩,fun p hp=>by cases hp⟩
     have hq:p ∈ unPs x.ps:=hq
     unfold unPs at hq
     obtain ⟨q,hq2,rfl⟩:=List.mem_map.1 hq
     have:=unT_len q.2
     exact ⟨(hp' q hq2).1,by have:=(hp' q hq2).2;dsimp only;omega⟩
 · cases e
   refine ⟨hv',?_,?_,?_⟩
   · dsimp only
     unfold rawI
     (repeat' split)<;>simp<;>omega
   · dsimp only
     unfold rawI
     (repeat' split)<;>first
       | exact ho'
       | exact bd_snoc ho' b1
       | exact bd_snoc ho' b3
       | exact bd_snoc ho' b4
       | exact bd_snoc ho' b5
   · dsimp only
     unfold prsI
     split
     · intro p hp;cases hp
     split
     · split
       · intro p hq
         rcases List.mem_append.1 hq with hq|hq
         · exact hp' p hq
         · obtain rfl:p=(n.attr,[]):=by simpa using hq
           exact ⟨ha,by simp⟩
       split
       · intro p hq
         rcases last_mem hq with hq|⟨q,hq2,rfl⟩
         · exact hp' p hq
         · exact ⟨ha,(hp' q hq2).2⟩
       split
       · intro p hq
         rcases last_mem hq with hq|⟨q,hq2,rfl⟩
         · exact hp' p hq
         · exact ⟨(hp q hq2).1,by dsimp only;rw [List.length_append,List.length_singleton];have:=(hp q hq2).2;omega⟩
       split
       · intro p hp;cases hp
       · exact hp'
     · exact hp'
theorem bd_fold: ∀ (t:Bs) {N:Nat} {x y:TkI},BdI N x→tkFold x t=some y→BdI (N+t.length) y
 | [],N,x,y,h,e=>by cases e;exact h
 | b::t,N,x,y,h,e=>by
   rw [tkFold_cons] at e
   cases hq:tkStep x b with
   | none=>rw [hq] at e;cases e
   | some z =>
     rw [hq] at e
     rw [List.length_cons,show N+(t.length+1)=N+1+t.length by omega]
     exact bd_fold t (bd_step h hq) e
theorem tok_bd {s:Bs} {l:List TokD} (h:tokM s=some l):l.length≤60∧ ∀ t ∈ l,bdT 600 t:=by
 refine ⟨(tok_wf h).2,?_⟩
 unfold tokM at h
 split at h
 · rename_i ht
   have hl:=(textB_iff.1 ht).1
   cases hf:tkFold tkI0 s with
   | none=>rw [hf] at h;cases h
   | some y =>
     rw [hf] at h
     have hb:BdI (0+s.length) y:=bd_fold s (x:=tkI0) ⟨stV_st0,Nat.le_refl _,(fun t ht=>by cases ht),(fun p hp=>by cases hp)⟩ hf
     have ho: ∀ t ∈ y.out,bdT 600 t:=fun t ht=>bdT_mono (hb.out t ht) (by omega)
     have h:tkFin y=some l:=h
     unfold tkFin at h
     have hz: ∀ t ∈ (if y.raw=[] then y.out else y.out++[tkText (unT y.raw)]),bdT 600 t:=by
      split
      · exact ho
      · have:=unT_len y.raw
        have:=hb.raw
        exact bd_snoc ho ⟨by simp [tkText],by show (unT y.raw).length≤_;omega,by simp [tkText],fun p hp=>by cases hp⟩
     generalize (if y.raw=[] then y.out else y.out++[tkText (unT y.raw)])=Z at h hz
     split at h
     · cases h
     split at h
     · cases h
     · cases h
       exact hz
 · cases h
end Go.Proofs.YtnbjogilidfkdaaGreat

/- Tokens as cells; how deep they are open. Plain. -/
namespace Go.Proofs.YtnbjogilidfkdaaGreat
set_option maxRecDepth 100000
set_option linter.unusedVariables false
set_option linter.unusedSimpArgs false
open Go.RowKit
theorem encTk_mk (k:Int) (n v:Bs) (ps:List (Bs×Bs)):encTk ⟨k,n,v,ps⟩=[.int .i64 k,.str n,.str v,.seq (encPrs ps)]:=rfl
theorem encTks_len (l:List TokD):(encTks l).length=l.length:=by simp [encTks]
theorem encTks_get (l:List TokD) (k:Nat):(encTks l)[k]?=(l[k]?).map encTk:=by simp [encTks]
theorem encTks_app (a b:List TokD):encTks (a++b)=encTks a++encTks b:=by simp [encTks]
theorem encTks_pt (a:List TokD) (k:Int) (n v:Bs) (ps:List (Bs×Bs)):encTks a++[[.int .i64 k,.str n,.str v,.seq (encPrs ps)]]=encTks (a++[⟨k,n,v,ps⟩]):=by rw [encTks_app];rfl
theorem encTks_nil:encTks []=[]:=rfl
theorem encTks_all (l:List TokD):(∀ e ∈ encTks l,e.length=4)=True:=eq_true (by
 intro e he
 obtain ⟨t,_,rfl⟩:=List.mem_map.1 he;rfl)
theorem encPrs_len (l:List (Bs×Bs)):(encPrs l).length=l.length:=by simp [encPrs]
theorem encPrs_get (l:List (Bs×Bs)) (k:Nat):(encPrs l)[k]?=(l[k]?).map encPr:=by simp [encPrs]
theorem encPrs_app (a b:List (Bs×Bs)):encPrs (a++b)=encPrs a++encPrs b:=by simp [encPrs]
theorem encPrs_pt (a:List (Bs×Bs)) (n v:Bs):encPrs a++[[.str n,.str v]]=encPrs (a++[(n,v)]):=by rw [encPrs_app];rfl
theorem encPrs_nil:encPrs []=[]:=rfl
theorem encPrs_all (l:List (Bs×Bs)):(∀ e ∈ encPrs l,e.length=2)=True:=eq_true (by
 intro e he
 obtain ⟨t,_,rfl⟩:=List.mem_map.1 he;rfl)
theorem encPr_inj {x y:Bs×Bs} (h:encPr x=encPr y):x=y:=by
 obtain ⟨a,b⟩:=x
 obtain ⟨c,d⟩:=y
 simp [encPr] at h
 rw [h.1,h.2]
theorem encPrs_inj {a b:List (Bs×Bs)} (h:encPrs a=encPrs b):a=b:=(List.map_inj_right (fun x y e=>encPr_inj e)).1 h
theorem encPrs_iff {a b:List (Bs×Bs)}:encPrs a=encPrs b↔a=b:=⟨encPrs_inj,fun h=>h ▸ rfl⟩
theorem encTk_inj {x y:TokD} (h:encTk x=encTk y):x=y:=by
 obtain ⟨k,n,v,ps⟩:=x
 obtain ⟨k',n',v',ps'⟩:=y
 rw [encTk_mk,encTk_mk] at h
 simp only [List.cons.injEq,PV.int.injEq,PV.str.injEq,PV.seq.injEq,true_and,and_true] at h
 obtain ⟨rfl,rfl,rfl,h⟩:=h
 rw [encPrs_inj h]
theorem encTks_inj {a b:List TokD} (h:encTks a=encTks b):a=b:=(List.map_inj_right (fun x y e=>encTk_inj e)).1 h
theorem encTks_iff {a b:List TokD}:encTks a=encTks b↔a=b:=⟨encTks_inj,fun h=>h ▸ rfl⟩
/-- Small tokens. -/
def smTk (t:TokD):Prop:=t.name.length≤10∧t.value.length≤72000∧t.pairs.length≤60∧ ∀ p ∈ t.pairs,p.1.length≤10∧p.2.length≤72000
def smTks (l:List TokD):Prop:=l.length≤1000∧ ∀ t ∈ l,smTk t
theorem smTk_of {N:Nat} {t:TokD} (h:bdT N t) (hN:N≤72000):smTk t:=bdT_mono h hN
theorem sm_tok {s:Bs} {l:List TokD} (h:tokM s=some l):smTks l:=by
 obtain ⟨h1,h2⟩:=tok_bd h
 exact ⟨by omega,fun t ht=>smTk_of (h2 t ht) (by omega)⟩
theorem smTk_at {l:List TokD} (h:smTks l) {k:Nat} {t:TokD} (hx:l[k]?=some t):smTk t:=h.2 t (List.mem_of_getElem? hx)
theorem drop_tk {α:Type} {l:List α} {k:Nat} {x:α} (h:l[k]?=some x):l.drop k=x::l.drop (k+1):=by
 obtain ⟨hk,rfl⟩:=List.getElem?_eq_some_iff.1 h
 exact List.drop_eq_getElem_cons hk
def depF:List Bs→Nat→List TokD→Nat×Bool
 | st,m,[]=>(m,st.isEmpty)
 | [],m,t::r=>if t.kind=3 then (0,false) else if t.kind=2∧voidN t.name=false then depF [t.name] (max m 1) r else depF [] m r
 | n::st,m,t::r=>if t.kind=3 then (if n=t.name then depF st m r else (0,false)) else if t.kind=2∧voidN t.name=false then depF (t.name::n::st) (max m (st.length+2)) r else depF (n::st) m r
theorem dep_nil (st:List Bs) (m:Nat):depF st m []=(m,st.isEmpty):=by cases st<;>rfl
theorem dep_3 {st:List Bs} {m:Nat} {t:TokD} {r:List TokD} (h:t.kind=3):depF st m (t::r)=match st with|[]=>(0,false)|n::q=>if n=t.name then depF q m r else (0,false):=by
 cases st<;>simp [depF,h]
theorem dep_2 {st:List Bs} {m:Nat} {t:TokD} {r:List TokD} (h:t.kind=2) (hv:voidN t.name=false):depF st m (t::r)=depF (t.name::st) (max m (st.length+1)) r:=by
 cases st<;>simp [depF,h,hv]
theorem dep_o {st:List Bs} {m:Nat} {t:TokD} {r:List TokD} (h:t.kind≠3) (h2: ¬ (t.kind=2∧voidN t.name=false)):depF st m (t::r)=depF st m r:=by
 cases st<;>simp only [depF,if_neg h,if_neg h2]
theorem dep_bal: ∀ (l:List TokD) (st:List Bs) (m:Nat),(depF st m l).2=balF st l
 | [],st,m=>by rw [dep_nil];cases st<;>rfl
 | t::r,st,m=>by
   by_cases h3:t.kind=3
   · rw [dep_3 h3,bal_3 h3]
     cases st with
     | nil=>rfl
     | cons n q =>
       dsimp only
       split
       · rename_i h;rw [dep_bal r q m];simp [h]
       · rename_i h;simp [h]
   · by_cases h2:t.kind=2∧voidN t.name=false
     · rw [dep_2 h2.1 h2.2,bal_2 h2.1 h2.2,dep_bal]
     · rw [dep_o h3 h2,bal_o h3 h2,dep_bal]
theorem strs_rev (n:Bs) (st:List Bs):strs st.reverse++[[.str n]]=strs (n::st).reverse:=by simp [strs]
theorem strs_top (n:Bs) (st:List Bs):(strs (n::st).reverse)[st.length]?=some [.str n]:=by
 simp [strs]
theorem strs_pop (n:Bs) (st:List Bs):(strs (n::st).reverse).take st.length=strs st.reverse:=by
 simp [strs]
end Go.Proofs.YtnbjogilidfkdaaGreat

/- Reading tokens: what holds behind some bytes. Plain. -/
namespace Go.Proofs.YtnbjogilidfkdaaGreat
set_option maxRecDepth 100000
set_option linter.unusedVariables false
set_option linter.unusedSimpArgs false
open Go.RowKit
/-- What holds behind k bytes of s. -/
structure TkAt (s:Bs) (k:Nat) (x:TkI):Prop where
 ok:TkOk x
 bd:BdI k x
 lo:x.out.length≤k
 lp:x.ps.length≤k
 eq:(tkFold tkI0 s).bind tkFin=(tkFold x (s.drop k)).bind tkFin
theorem TkAt.zero (s:Bs):TkAt s 0 tkI0:=⟨tkI0_ok,⟨stV_st0,Nat.le_refl _,(fun t h=>by cases h),(fun t h=>by cases h)⟩,Nat.le_refl _,Nat.le_refl _,rfl⟩
theorem tkStep_lens {x y:TkI} {b:UInt8} (e:tkStep x b=some y):y.out.length≤x.out.length+1∧y.ps.length≤x.ps.length+1:=by
 unfold tkStep at e
 split at e
 · cases e
 split at e
 · split at e
   · cases e
   · cases e
     simp
 · cases e
   refine ⟨?_,?_⟩
   · unfold rawI
     (repeat' split)<;>simp
   · unfold prsI
     (repeat' split)<;>simp [lastP_len]
theorem drop_get {s:Bs} {k:Nat} (h:k<s.length):s.drop k=s.getD k 0::s.drop (k+1):=by
 rw [List.drop_eq_getElem_cons h]
 simp [List.getD_eq_getElem?_getD,h]
theorem TkAt.step {s:Bs} {k:Nat} {x y:TkI} (h:TkAt s k x) (hk:k<s.length) (e:tkStep x (s.getD k 0)=some y):TkAt s (k+1) y:=by
 obtain ⟨h1,h2⟩:=tkStep_lens e
 refine ⟨tk_ok h.ok e,bd_step h.bd e,by have:=h.lo;omega,by have:=h.lp;omega,?_⟩
 rw [h.eq,drop_get hk,tkFold_cons,e]
 rfl
theorem TkAt.stop {s:Bs} {k:Nat} {x:TkI} (h:TkAt s k x) (hk:k<s.length) (ht:textB s=true) (e:tkStep x (s.getD k 0)=none):tokM s=none:=by
 unfold tokM
 rw [if_pos ht,h.eq,drop_get hk,tkFold_cons,e]
 rfl
theorem TkAt.fin {s:Bs} {k:Nat} {x:TkI} (h:TkAt s k x) (hk:s.length≤k) (ht:textB s=true):tokM s=tkFin x:=by
 unfold tokM
 rw [if_pos ht,h.eq,List.drop_eq_nil_of_le hk]
 rfl
theorem tokM_bad {s:Bs} (h:textB s=false):tokM s=none:=by
 unfold tokM
 rw [if_neg (by rw [h];decide)]
/-- The last attribute is written over. -/
theorem encPrs_setl (l:List (Bs×Bs)) (p q:Bs×Bs):(encPrs (l++[p])).set l.length [.str q.1,.str q.2]=encPrs (l++[q]):=by
 rw [encPrs_app,encPrs_app,List.set_append_right _ _ (by rw [encPrs_len];exact Nat.le_refl _),encPrs_len,Nat.sub_self]
 rfl
theorem encPrs_getl (l:List (Bs×Bs)) (p:Bs×Bs):(encPrs (l++[p]))[l.length]?=some [.str p.1,.str p.2]:=by
 simp [encPrs,encPr]
/-- Some attributes are unescaped. -/
def psJ (ps:List (Bs×Bs)) (j:Nat):List (Bs×Bs):=unPs (ps.take j)++ps.drop j
theorem psJ_zero (ps:List (Bs×Bs)):psJ ps 0=ps:=by simp [psJ,unPs]
theorem psJ_all (ps:List (Bs×Bs)):psJ ps ps.length=unPs ps:=by simp [psJ]
theorem psJ_len (ps:List (Bs×Bs)) (j:Nat):(psJ ps j).length=ps.length:=by simp [psJ,unPs];omega
theorem psJ_get {ps:List (Bs×Bs)} {j:Nat} {p:Bs×Bs} (h:ps[j]?=some p):(encPrs (psJ ps j))[j]?=some [.str p.1,.str p.2]:=by
 obtain ⟨hj,rfl⟩:=List.getElem?_eq_some_iff.1 h
 rw [encPrs_get,psJ,List.getElem?_append_right (by simp [unPs];omega)]
 simp [unPs,encPr,Nat.min_eq_left (Nat.le_of_lt hj),hj]
theorem psJ_set {ps:List (Bs×Bs)} {j:Nat} {p:Bs×Bs} (h:ps[j]?=some p):(encPrs (psJ ps j)).set j [.str p.1,.str (unT p.2)]=encPrs (psJ ps (j+1)):=by
 obtain ⟨hj,rfl⟩:=List.getElem?_eq_some_iff.1 h
 have hl:(unPs (ps.take j)).length=j:=by simp [unPs];omega
 unfold psJ
 rw [encPrs_app,List.set_append_right _ _ (by rw [encPrs_len,hl];exact Nat.le_refl _),encPrs_len,hl,Nat.sub_self,List.drop_eq_getElem_cons hj,show ps.take (j+1)=ps.take j++[ps[j]] from (List.take_append_getElem hj).symm,unPs_append,encPrs_app,encPrs_app,List.append_assoc]
 rfl
end Go.Proofs.YtnbjogilidfkdaaGreat

/- Valid tokens by steps; how long they are printed; safe markup by steps. Plain. -/
namespace Go.Proofs.YtnbjogilidfkdaaGreat
set_option maxRecDepth 100000
set_option linter.unusedVariables false
set_option linter.unusedSimpArgs false
open Go.RowKit
theorem tkStop {α:Type} {p:α→Bool} {l:List α} {k:Nat} {x:α} (h:l[k]?=some x) (hp:p x=false):l.all p=false:=by
 rw [List.all_eq_false]
 exact ⟨x,List.mem_of_getElem? h,by simp [hp]⟩
theorem tkTake {α:Type} {p:α→Bool} {l:List α} {k:Nat} {x:α} (h:l[k]?=some x) (hk:(l.take k).all p=true) (hp:p x=true):(l.take (k+1)).all p=true:=by
 rw [take_snoc' h,List.all_append,hk];simp [hp]
theorem ok_2 (n v:Bs) (ps:List (Bs×Bs)):okTk ⟨2,n,v,ps⟩=(tagN n && ps.all (prN n)):=rfl
theorem ms_none {s:Bs} (h:tokM s=none):msM s=false:=by unfold msM;rw [h]
theorem ms_some {s:Bs} {l:List TokD} (h:tokM s=some l):msM s=(balF [] l && l.all okTk):=by unfold msM;rw [h];rfl
theorem wf_tok {s:Bs} {l:List TokD} (h:tokM s=some l):smTks l∧ ∀ t ∈ l,wfT t:=⟨sm_tok h,(tok_wf h).1⟩
end Go.Proofs.YtnbjogilidfkdaaGreat

/- The reference's reading of tokens, by bytes. Plain. -/
namespace Go.Proofs.YtnbjogilidfkdaaGreat
set_option maxRecDepth 100000
set_option linter.unusedVariables false
set_option linter.unusedSimpArgs false
open Go.RowKit
def ts0:TkS:=⟨st0,[],[],[]⟩
/-- What the reference holds behind k bytes. -/
structure TsAt (s:Bs) (k:Nat) (y:TkS):Prop where
 v:stV y.s=true
 buf:y.buf.length≤k
 lo:y.out.length≤60
 lp:y.ps.length≤60
 less:y.s.mode=14→y.buf≠[]
 eq:tsFold ts0 s=tsFold y (s.drop k)
theorem TsAt.zero (s:Bs):TsAt s 0 ts0:=⟨stV_st0,Nat.le_refl _,Nat.zero_le _,Nat.zero_le _,(fun h=>by simp [ts0,st0] at h),rfl⟩
theorem ts_buf (y:TkS) (b:UInt8):(tsStep y b).buf.length≤y.buf.length+1:=by
 unfold tsStep
 (repeat' split)<;>simp
theorem ts_less {y:TkS} {b:UInt8} (hv:stV y.s=true) (h:(tsStep y b).s.mode=14):(tsStep y b).buf≠[]:=by
 rw [tsStep_s] at h
 have hs:=step_modes hv b
 have h7:tsStep y b=⟨step y.s b,y.buf++[b],y.ps,y.out⟩:=by
  unfold tsStep
  rw [if_neg (by omega),if_neg (by omega),if_neg (by omega),if_neg (by omega),if_neg (by omega),if_neg (by omega),if_pos (by omega)]
 rw [h7]
 simp
theorem TsAt.step {s:Bs} {k:Nat} {y z:TkS} (h:TsAt s k y) (hk:k<s.length) (e:tsStep y (s.getD k 0)=z) (h1:z.out.length≤60) (h2:z.ps.length≤60):TsAt s (k+1) z:=by
 subst e
 have hb: ¬ bigS (tsStep y (s.getD k 0))=true:=by
  unfold bigS
  simp only [Bool.or_eq_true,decide_eq_true_eq]
  omega
 refine ⟨?_,?_,h1,h2,ts_less h.v,?_⟩
 · rw [tsStep_s];exact stV_step _ _
 · have:=ts_buf y (s.getD k 0)
   have:=h.buf
   omega
 · rw [h.eq,drop_get hk,tsFold,if_neg hb]
theorem TsAt.stop {s:Bs} {k:Nat} {y z:TkS} (h:TsAt s k y) (hk:k<s.length) (e:tsStep y (s.getD k 0)=z) (h1:60<z.out.length∨60<z.ps.length):tokM s=none:=by
 subst e
 have hb:bigS (tsStep y (s.getD k 0))=true:=by
  unfold bigS
  simp only [Bool.or_eq_true,decide_eq_true_eq]
  exact h1
 rw [← tokM_eq]
 have e:tsFold ts0 s=none:=by rw [h.eq,drop_get hk,tsFold,if_pos hb]
 show (tsFold ts0 s).bind _=none
 rw [e];rfl
theorem TsAt.fin {s:Bs} {k:Nat} {y:TkS} (h:TsAt s k y) (hk:s.length≤k):tokM s=if textB s=true then tsFin y else none:=by
 rw [← tokM_eq]
 show (tsFold ts0 s).bind _=_
 rw [h.eq,List.drop_eq_nil_of_le hk,tsFold];rfl
def closeP (m:Int) (ta v:Bs) (ps:List (Bs×Bs)):List (Bs×Bs):=if 4≤m∧m≤8 then ps++[(ta,unT v)] else ps
section
variable {m n:Int} {tg ta ng na buf:Bs} {ts ns:Bool} {ps:List (Bs×Bs)} {out:List TokD} {b:UInt8}
theorem ts_1 (hn:step ⟨m,tg,ta,ts⟩ b=⟨n,ng,na,ns⟩) (h:m=0) (h':n=1):tsStep ⟨⟨m,tg,ta,ts⟩,buf,ps,out⟩ b=⟨⟨n,ng,na,ns⟩,[],[],putTk out (tkText (unT buf))⟩:=by
 unfold tsStep
 simp only [hn]
 rw [if_pos ⟨h,h'⟩]
theorem ts_2 (hn:step ⟨m,tg,ta,ts⟩ b=⟨n,ng,na,ns⟩) (h:m=10) (h':n=0):tsStep ⟨⟨m,tg,ta,ts⟩,buf,ps,out⟩ b=⟨⟨n,ng,na,ns⟩,[],ps,out++[tkCom buf]⟩:=by
 unfold tsStep
 simp only [hn]
 rw [if_neg (by omega),if_pos ⟨h,h'⟩]
theorem ts_3 (hn:step ⟨m,tg,ta,ts⟩ b=⟨n,ng,na,ns⟩) (h:m=9) (h':n=0):tsStep ⟨⟨m,tg,ta,ts⟩,buf,ps,out⟩ b=⟨⟨n,ng,na,ns⟩,[],ps,out++[tkEnd tg]⟩:=by
 unfold tsStep
 simp only [hn]
 rw [if_neg (by omega),if_neg (by omega),if_pos ⟨h,h'⟩]
theorem ts_4 (hn:step ⟨m,tg,ta,ts⟩ b=⟨n,ng,na,ns⟩) (h:2≤m∧m≤8) (h':n=0∨n=11):tsStep ⟨⟨m,tg,ta,ts⟩,buf,ps,out⟩ b=⟨⟨n,ng,na,ns⟩,[],(if 4≤m∧m≤8 then ps++[(ta,unT buf)] else ps),out++[tkOpen tg (if 4≤m∧m≤8 then ps++[(ta,unT buf)] else ps)]⟩:=by
 unfold tsStep
 simp only [hn]
 rw [if_neg (by omega),if_neg (by omega),if_neg (by omega),if_pos ⟨h,h'⟩]
 rfl
theorem ts_5 (hn:step ⟨m,tg,ta,ts⟩ b=⟨n,ng,na,ns⟩) (h:2≤m∧m≤8) (h':n=3):tsStep ⟨⟨m,tg,ta,ts⟩,buf,ps,out⟩ b=⟨⟨n,ng,na,ns⟩,[],(if 4≤m∧m≤8 then ps++[(ta,unT buf)] else ps),out⟩:=by
 unfold tsStep
 simp only [hn]
 rw [if_neg (by omega),if_neg (by omega),if_neg (by omega),if_neg (by omega),if_pos ⟨h,h'⟩]
 rfl
theorem ts_6 (hn:step ⟨m,tg,ta,ts⟩ b=⟨n,ng,na,ns⟩) (h:m=14) (h':n=9):tsStep ⟨⟨m,tg,ta,ts⟩,buf,ps,out⟩ b=⟨⟨n,ng,na,ns⟩,[],ps,putTk out (tkScr buf.dropLast)⟩:=by
 unfold tsStep
 simp only [hn]
 rw [if_neg (by omega),if_neg (by omega),if_neg (by omega),if_neg (by omega),if_neg (by omega),if_pos ⟨h,h'⟩]
theorem ts_4' (hn:step ⟨m,tg,ta,ts⟩ b=⟨n,ng,na,ns⟩) (h:2≤m∧m≤8) (h':n=0∨n=11):tsStep ⟨⟨m,tg,ta,ts⟩,buf,ps,out⟩ b=⟨⟨n,ng,na,ns⟩,[],closeP m ta buf ps,out++[tkOpen tg (closeP m ta buf ps)]⟩:=ts_4 hn h h'
theorem ts_5' (hn:step ⟨m,tg,ta,ts⟩ b=⟨n,ng,na,ns⟩) (h:2≤m∧m≤8) (h':n=3):tsStep ⟨⟨m,tg,ta,ts⟩,buf,ps,out⟩ b=⟨⟨n,ng,na,ns⟩,[],closeP m ta buf ps,out⟩:=ts_5 hn h h'
/-- None of the first ways. -/
def noWay (m n:Int):Prop:= ¬ (m=0∧n=1)∧ ¬ (m=10∧n=0)∧ ¬ (m=9∧n=0)∧ ¬ ((2≤m∧m≤8)∧(n=0∨n=11))∧ ¬ ((2≤m∧m≤8)∧n=3)∧ ¬ (m=14∧n=9)
theorem ts_7 (hn:step ⟨m,tg,ta,ts⟩ b=⟨n,ng,na,ns⟩) (h:noWay m n) (h':m=0∨m=10∨(11≤m∧m≤14)∨ns=true):tsStep ⟨⟨m,tg,ta,ts⟩,buf,ps,out⟩ b=⟨⟨n,ng,na,ns⟩,buf++[b],ps,out⟩:=by
 obtain ⟨h1,h2,h3,h4,h5,h6⟩:=h
 unfold tsStep
 simp only [hn]
 rw [if_neg h1,if_neg h2,if_neg h3,if_neg h4,if_neg h5,if_neg h6,if_pos h']
theorem ts_8 (hn:step ⟨m,tg,ta,ts⟩ b=⟨n,ng,na,ns⟩) (h:noWay m n) (h': ¬ (m=0∨m=10∨(11≤m∧m≤14)∨ns=true)):tsStep ⟨⟨m,tg,ta,ts⟩,buf,ps,out⟩ b=⟨⟨n,ng,na,ns⟩,buf,ps,out⟩:=by
 obtain ⟨h1,h2,h3,h4,h5,h6⟩:=h
 unfold tsStep
 simp only [hn]
 rw [if_neg h1,if_neg h2,if_neg h3,if_neg h4,if_neg h5,if_neg h6,if_neg h']
end
end Go.Proofs.YtnbjogilidfkdaaGreat
