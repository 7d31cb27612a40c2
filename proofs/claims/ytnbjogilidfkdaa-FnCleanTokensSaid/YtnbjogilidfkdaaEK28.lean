/- Tokens as cells; how deep they are open. Plain. -/
import Derived.Test.YtnbjogilidfkdaaEK3

namespace Go.Proofs.Ytnbjogilidfkdaa
set_option maxRecDepth 100000
set_option linter.unusedVariables false
set_option linter.unusedSimpArgs false
open Go.RowKit
theorem encTk_mk (k:Int) (n v:Bs) (ps:List (Bs×Bs)):encTk ⟨k,n,v,ps⟩=[.int .i64 k,.str n,.str v,.seq (encPrs ps)]:=rfl
theorem encTks_len (l:List TokD):(encTks l).length=l.length:=by simp [encTks]
theorem encTks_get (l:List TokD) (k:Nat):(encTks l)[k]?=(l[k]?).map encTk:=by simp [encTks]
theorem encTks_app (a b:List TokD):encTks (a++b)=encTks a++encTks b:=by simp [encTks]
theorem encTks_pt (a:List TokD) (k:Int) (n v:Bs) (ps:List (Bs×Bs)):encTks a++[[.int .i64 k,.str n,.str v,.seq (encPrs ps)]]=encTks (a++[⟨k,n,v,ps⟩]):=by rw [encTks_app];rfl
theorem encTks_nil:encTks []=[]:=rfl
theorem encTks_all (l:List TokD):(∀ e ∈ encTks l,e.length=4)=True:=eq_true (by
 intro e he
 obtain ⟨t,_,rfl⟩:=List.mem_map.1 he;rfl)
theorem encPrs_len (l:List (Bs×Bs)):(encPrs l).length=l.length:=by simp [encPrs]
theorem encPrs_get (l:List (Bs×Bs)) (k:Nat):(encPrs l)[k]?=(l[k]?).map encPr:=by simp [encPrs]
theorem encPrs_app (a b:List (Bs×Bs)):encPrs (a++b)=encPrs a++encPrs b:=by simp [encPrs]
theorem encPrs_pt (a:List (Bs×Bs)) (n v:Bs):encPrs a++[[.str n,.str v]]=encPrs (a++[(n,v)]):=by rw [encPrs_app];rfl
theorem encPrs_nil:encPrs []=[]:=rfl
theorem encPrs_all (l:List (Bs×Bs)):(∀ e ∈ encPrs l,e.length=2)=True:=eq_true (by
 intro e he
 obtain ⟨t,_,rfl⟩:=List.mem_map.1 he;rfl)
theorem encPr_inj {x y:Bs×Bs} (h:encPr x=encPr y):x=y:=by
 obtain ⟨a,b⟩:=x
 obtain ⟨c,d⟩:=y
 simp [encPr] at h
 rw [h.1,h.2]
theorem encPrs_inj {a b:List (Bs×Bs)} (h:encPrs a=encPrs b):a=b:=(List.map_inj_right (fun x y e=>encPr_inj e)).1 h
theorem encPrs_iff {a b:List (Bs×Bs)}:encPrs a=encPrs b↔a=b:=⟨encPrs_inj,fun h=>h ▸ rfl⟩
theorem encTk_inj {x y:TokD} (h:encTk x=encTk y):x=y:=by
 obtain ⟨k,n,v,ps⟩:=x
 obtain ⟨k',n',v',ps'⟩:=y
 rw [encTk_mk,encTk_mk] at h
 simp only [List.cons.injEq,PV.int.injEq,PV.str.injEq,PV.seq.injEq,true_and,and_true] at h
 obtain ⟨rfl,rfl,rfl,h⟩:=h
 rw [encPrs_inj h]
theorem encTks_inj {a b:List TokD} (h:encTks a=encTks b):a=b:=(List.map_inj_right (fun x y e=>encTk_inj e)).1 h
theorem encTks_iff {a b:List TokD}:encTks a=encTks b↔a=b:=⟨encTks_inj,fun h=>h ▸ rfl⟩
/-- Small tokens. -/
def smTk (t:TokD):Prop:=t.name.length≤10∧t.value.length≤72000∧t.pairs.length≤60∧ ∀ p ∈ t.pairs,p.1.length≤10∧p.2.length≤72000
def smTks (l:List TokD):Prop:=l.length≤1000∧ ∀ t ∈ l,smTk t
theorem smTk_of {N:Nat} {t:TokD} (h:bdT N t) (hN:N≤72000):smTk t:=bdT_mono h hN
theorem sm_tok {s:Bs} {l:List TokD} (h:tokM s=some l):smTks l:=by
 obtain ⟨h1,h2⟩:=tok_bd h
 exact ⟨by omega,fun t ht=>smTk_of (h2 t ht) (by omega)⟩
theorem sm_clean {s:Bs} {l:List TokD} (h:tokM s=some l):smTks (cleanMk l):=by
 obtain ⟨h1,h2⟩:=tok_bd h
 obtain ⟨h3,h4⟩:=clean_bd h1 h2
 exact ⟨by omega,fun t ht=>smTk_of (h4 t ht) (by omega)⟩
theorem smTk_at {l:List TokD} (h:smTks l) {k:Nat} {t:TokD} (hx:l[k]?=some t):smTk t:=h.2 t (List.mem_of_getElem? hx)
theorem drop_tk {α:Type} {l:List α} {k:Nat} {x:α} (h:l[k]?=some x):l.drop k=x::l.drop (k+1):=by
 obtain ⟨hk,rfl⟩:=List.getElem?_eq_some_iff.1 h
 exact List.drop_eq_getElem_cons hk
def depF:List Bs→Nat→List TokD→Nat×Bool
 | st,m,[]=>(m,st.isEmpty)
 | [],m,t::r=>if t.kind=3 then (0,false) else if t.kind=2∧voidN t.name=false then depF [t.name] (max m 1) r else depF [] m r
 | n::st,m,t::r=>if t.kind=3 then (if n=t.name then depF st m r else (0,false)) else if t.kind=2∧voidN t.name=false then depF (t.name::n::st) (max m (st.length+2)) r else depF (n::st) m r
theorem dep_nil (st:List Bs) (m:Nat):depF st m []=(m,st.isEmpty):=by cases st<;>rfl
theorem dep_3 {st:List Bs} {m:Nat} {t:TokD} {r:List TokD} (h:t.kind=3):depF st m (t::r)=match st with|[]=>(0,false)|n::q=>if n=t.name then depF q m r else (0,false):=by
 cases st<;>simp [depF,h]
theorem dep_2 {st:List Bs} {m:Nat} {t:TokD} {r:List TokD} (h:t.kind=2) (hv:voidN t.name=false):depF st m (t::r)=depF (t.name::st) (max m (st.length+1)) r:=by
 cases st<;>simp [depF,h,hv]
theorem dep_o {st:List Bs} {m:Nat} {t:TokD} {r:List TokD} (h:t.kind≠3) (h2: ¬ (t.kind=2∧voidN t.name=false)):depF st m (t::r)=depF st m r:=by
 cases st<;>simp only [depF,if_neg h,if_neg h2]
theorem dep_bal: ∀ (l:List TokD) (st:List Bs) (m:Nat),(depF st m l).2=balF st l
 | [],st,m=>by rw [dep_nil];cases st<;>rfl
 | t::r,st,m=>by
   by_cases h3:t.kind=3
   · rw [dep_3 h3,bal_3 h3]
     cases st with
     | nil=>rfl
     | cons n q =>
       dsimp only
       split
       · rename_i h;rw [dep_bal r q m];simp [h]
       · rename_i h;simp [h]
   · by_cases h2:t.kind=2∧voidN t.name=false
     · rw [dep_2 h2.1 h2.2,bal_2 h2.1 h2.2,dep_bal]
     · rw [dep_o h3 h2,bal_o h3 h2,dep_bal]
theorem strs_rev (n:Bs) (st:List Bs):strs st.reverse++[[.str n]]=strs (n::st).reverse:=by simp [strs]
theorem strs_top (n:Bs) (st:List Bs):(strs (n::st).reverse)[st.length]?=some [.str n]:=by
 simp [strs]
theorem strs_pop (n:Bs) (st:List Bs):(strs (n::st).reverse).take st.length=strs st.reverse:=by
 simp [strs]
end Go.Proofs.Ytnbjogilidfkdaa

/- Reading tokens: what holds behind some bytes. Plain. -/
namespace Go.Proofs.Ytnbjogilidfkdaa
set_option maxRecDepth 100000
set_option linter.unusedVariables false
set_option linter.unusedSimpArgs false
open Go.RowKit
/-- What holds behind k bytes of s. -/
structure TkAt (s:Bs) (k:Nat) (x:TkI):Prop where
 ok:TkOk x
 bd:BdI k x
 lo:x.out.length≤k
 lp:x.ps.length≤k
 eq:(tkFold tkI0 s).bind tkFin=(tkFold x (s.drop k)).bind tkFin
theorem TkAt.zero (s:Bs):TkAt s 0 tkI0:=⟨tkI0_ok,⟨stV_st0,Nat.le_refl _,(fun t h=>by cases h),(fun t h=>by cases h)⟩,Nat.le_refl _,Nat.le_refl _,rfl⟩
theorem tkStep_lens {x y:TkI} {b:UInt8} (e:tkStep x b=some y):y.out.length≤x.out.length+1∧y.ps.length≤x.ps.length+1:=by
 unfold tkStep at e
 split at e
 · cases e
 split at e
 · split at e
   · cases e
   · cases e
     simp
 · cases e
   refine ⟨?_,?_⟩
   · unfold rawI
     (repeat' split)<;>simp
   · unfold prsI
     (repeat' split)<;>simp [lastP_len]
theorem drop_get {s:Bs} {k:Nat} (h:k<s.length):s.drop k=s.getD k 0::s.drop (k+1):=by
 rw [List.drop_eq_getElem_cons h]
 simp [List.getD_eq_getElem?_getD,h]
theorem TkAt.step {s:Bs} {k:Nat} {x y:TkI} (h:TkAt s k x) (hk:k<s.length) (e:tkStep x (s.getD k 0)=some y):TkAt s (k+1) y:=by
 obtain ⟨h1,h2⟩:=tkStep_lens e
 refine ⟨tk_ok h.ok e,bd_step h.bd e,by have:=h.lo;omega,by have:=h.lp;omega,?_⟩
 rw [h.eq,drop_get hk,tkFold_cons,e]
 rfl
theorem TkAt.stop {s:Bs} {k:Nat} {x:TkI} (h:TkAt s k x) (hk:k<s.length) (ht:textB s=true) (e:tkStep x (s.getD k 0)=none):tokM s=none:=by
 unfold tokM
 rw [if_pos ht,h.eq,drop_get hk,tkFold_cons,e]
 rfl
theorem TkAt.fin {s:Bs} {k:Nat} {x:TkI} (h:TkAt s k x) (hk:s.length≤k) (ht:textB s=true):tokM s=tkFin x:=by
 unfold tokM
 rw [if_pos ht,h.eq,List.drop_eq_nil_of_le hk]
 rfl
end Go.Proofs.Ytnbjogilidfkdaa

/- The reference's reading of tokens, by bytes. Plain. -/
namespace Go.Proofs.Ytnbjogilidfkdaa
set_option maxRecDepth 100000
set_option linter.unusedVariables false
set_option linter.unusedSimpArgs false
open Go.RowKit
def ts0:TkS:=⟨st0,[],[],[]⟩
/-- What the reference holds behind k bytes. -/
structure TsAt (s:Bs) (k:Nat) (y:TkS):Prop where
 v:stV y.s=true
 buf:y.buf.length≤k
 lo:y.out.length≤60
 lp:y.ps.length≤60
 less:y.s.mode=14→y.buf≠[]
 eq:tsFold ts0 s=tsFold y (s.drop k)
theorem TsAt.zero (s:Bs):TsAt s 0 ts0:=⟨stV_st0,Nat.le_refl _,Nat.zero_le _,Nat.zero_le _,(fun h=>by simp [ts0,st0] at h),rfl⟩
theorem ts_buf (y:TkS) (b:UInt8):(tsStep y b).buf.length≤y.buf.length+1:=by
 unfold tsStep
 (repeat' split)<;>simp
theorem ts_less {y:TkS} {b:UInt8} (hv:stV y.s=true) (h:(tsStep y b).s.mode=14):(tsStep y b).buf≠[]:=by
 rw [tsStep_s] at h
 have hs:=step_modes hv b
 have h7:tsStep y b=⟨step y.s b,y.buf++[b],y.ps,y.out⟩:=by
  unfold tsStep
  rw [if_neg (by omega),if_neg (by omega),if_neg (by omega),if_neg (by omega),if_neg (by omega),if_neg (by omega),if_pos (by omega)]
 rw [h7]
 simp
theorem TsAt.step {s:Bs} {k:Nat} {y z:TkS} (h:TsAt s k y) (hk:k<s.length) (e:tsStep y (s.getD k 0)=z) (h1:z.out.length≤60) (h2:z.ps.length≤60):TsAt s (k+1) z:=by
 subst e
 have hb: ¬ bigS (tsStep y (s.getD k 0))=true:=by
  unfold bigS
  simp only [Bool.or_eq_true,decide_eq_true_eq]
  omega
 refine ⟨?_,?_,h1,h2,ts_less h.v,?_⟩
 · rw [tsStep_s];exact stV_step _ _
 · have:=ts_buf y (s.getD k 0)
   have:=h.buf
   omega
 · rw [h.eq,drop_get hk,tsFold,if_neg hb]
theorem TsAt.stop {s:Bs} {k:Nat} {y z:TkS} (h:TsAt s k y) (hk:k<s.length) (e:tsStep y (s.getD k 0)=z) (h1:60<z.out.length∨60<z.ps.length):tokM s=none:=by
 subst e
 have hb:bigS (tsStep y (s.getD k 0))=true:=by
  unfold bigS
  simp only [Bool.or_eq_true,decide_eq_true_eq]
  exact h1
 rw [← tokM_eq]
 have e:tsFold ts0 s=none:=by rw [h.eq,drop_get hk,tsFold,if_pos hb]
 show (tsFold ts0 s).bind _=none
 rw [e];rfl
theorem TsAt.fin {s:Bs} {k:Nat} {y:TkS} (h:TsAt s k y) (hk:s.length≤k):tokM s=if textB s=true then tsFin y else none:=by
 rw [← tokM_eq]
 show (tsFold ts0 s).bind _=_
 rw [h.eq,List.drop_eq_nil_of_le hk,tsFold];rfl
def closeP (m:Int) (ta v:Bs) (ps:List (Bs×Bs)):List (Bs×Bs):=if 4≤m∧m≤8 then ps++[(ta,unT v)] else ps
section
variable {m n:Int} {tg ta ng na buf:Bs} {ts ns:Bool} {ps:List (Bs×Bs)} {out:List TokD} {b:UInt8}
theorem ts_1 (hn:step ⟨m,tg,ta,ts⟩ b=⟨n,ng,na,ns⟩) (h:m=0) (h':n=1):tsStep ⟨⟨m,tg,ta,ts⟩,buf,ps,out⟩ b=⟨⟨n,ng,na,ns⟩,[],[],putTk out (tkText (unT buf))⟩:=by
 unfold tsStep
 simp only [hn]
 rw [if_pos ⟨h,h'⟩]
theorem ts_2 (hn:step ⟨m,tg,ta,ts⟩ b=⟨n,ng,na,ns⟩) (h:m=10) (h':n=0):tsStep ⟨⟨m,tg,ta,ts⟩,buf,ps,out⟩ b=⟨⟨n,ng,na,ns⟩,[],ps,out++[tkCom buf]⟩:=by
 unfold tsStep
 simp only [hn]
 rw [if_neg (by omega),if_pos ⟨h,h'⟩]
theorem ts_3 (hn:step ⟨m,tg,ta,ts⟩ b=⟨n,ng,na,ns⟩) (h:m=9) (h':n=0):tsStep ⟨⟨m,tg,ta,ts⟩,buf,ps,out⟩ b=⟨⟨n,ng,na,ns⟩,[],ps,out++[tkEnd tg]⟩:=by
 unfold tsStep
 simp only [hn]
 rw [if_neg (by omega),if_neg (by omega),if_pos ⟨h,h'⟩]
theorem ts_4 (hn:step ⟨m,tg,ta,ts⟩ b=⟨n,ng,na,ns⟩) (h:2≤m∧m≤8) (h':n=0∨n=11):tsStep ⟨⟨m,tg,ta,ts⟩,buf,ps,out⟩ b=⟨⟨n,ng,na,ns⟩,[],(if 4≤m∧m≤8 then ps++[(ta,unT buf)] else ps),out++[tkOpen tg (if 4≤m∧m≤8 then ps++[(ta,unT buf)] else ps)]⟩:=by
 unfold tsStep
 simp only [hn]
 rw [if_neg (by omega),if_neg (by omega),if_neg (by omega),if_pos ⟨h,h'⟩]
 rfl
theorem ts_5 (hn:step ⟨m,tg,ta,ts⟩ b=⟨n,ng,na,ns⟩) (h:2≤m∧m≤8) (h':n=3):tsStep ⟨⟨m,tg,ta,ts⟩,buf,ps,out⟩ b=⟨⟨n,ng,na,ns⟩,[],(if 4≤m∧m≤8 then ps++[(ta,unT buf)] else ps),out⟩:=by
 unfold tsStep
 simp only [hn]
 rw [if_neg (by omega),if_neg (by omega),if_neg (by omega),if_neg (by omega),if_pos ⟨h,h'⟩]
 rfl
theorem ts_6 (hn:step ⟨m,tg,ta,ts⟩ b=⟨n,ng,na,ns⟩) (h:m=14) (h':n=9):tsStep ⟨⟨m,tg,ta,ts⟩,buf,ps,out⟩ b=⟨⟨n,ng,na,ns⟩,[],ps,putTk out (tkScr buf.dropLast)⟩:=by
 unfold tsStep
 simp only [hn]
 rw [if_neg (by omega),if_neg (by omega),if_neg (by omega),if_neg (by omega),if_neg (by omega),if_pos ⟨h,h'⟩]
theorem ts_4' (hn:step ⟨m,tg,ta,ts⟩ b=⟨n,ng,na,ns⟩) (h:2≤m∧m≤8) (h':n=0∨n=11):tsStep ⟨⟨m,tg,ta,ts⟩,buf,ps,out⟩ b=⟨⟨n,ng,na,ns⟩,[],closeP m ta buf ps,out++[tkOpen tg (closeP m ta buf ps)]⟩:=ts_4 hn h h'
theorem ts_5' (hn:step ⟨m,tg,ta,ts⟩ b=⟨n,ng,na,ns⟩) (h:2≤m∧m≤8) (h':n=3):tsStep ⟨⟨m,tg,ta,ts⟩,buf,ps,out⟩ b=⟨⟨n,ng,na,ns⟩,[],closeP m ta buf ps,out⟩:=ts_5 hn h h'
/-- None of the first ways. -/
def noWay (m n:Int):Prop:= ¬ (m=0∧n=1)∧ ¬ (m=10∧n=0)∧ ¬ (m=9∧n=0)∧ ¬ ((2≤m∧m≤8)∧(n=0∨n=11))∧ ¬ ((2≤m∧m≤8)∧n=3)∧ ¬ (m=14∧n=9)
theorem ts_7 (hn:step ⟨m,tg,ta,ts⟩ b=⟨n,ng,na,ns⟩) (h:noWay m n) (h':m=0∨m=10∨(11≤m∧m≤14)∨ns=true):tsStep ⟨⟨m,tg,ta,ts⟩,buf,ps,out⟩ b=⟨⟨n,ng,na,ns⟩,buf++[b],ps,out⟩:=by
 obtain ⟨h1,h2,h3,h4,h5,h6⟩:=h
 unfold tsStep
 simp only [hn]
 rw [if_neg h1,if_neg h2,if_neg h3,if_neg h4,if_neg h5,if_neg h6,if_pos h']
theorem ts_8 (hn:step ⟨m,tg,ta,ts⟩ b=⟨n,ng,na,ns⟩) (h:noWay m n) (h': ¬ (m=0∨m=10∨(11≤m∧m≤14)∨ns=true)):tsStep ⟨⟨m,tg,ta,ts⟩,buf,ps,out⟩ b=⟨⟨n,ng,na,ns⟩,buf,ps,out⟩:=by
 obtain ⟨h1,h2,h3,h4,h5,h6⟩:=h
 unfold tsStep
 simp only [hn]
 rw [if_neg h1,if_neg h2,if_neg h3,if_neg h4,if_neg h5,if_neg h6,if_neg h']
end
end Go.Proofs.Ytnbjogilidfkdaa

/- Valid tokens by steps; how long they are printed; safe markup by steps. Plain. -/
namespace Go.Proofs.Ytnbjogilidfkdaa
set_option maxRecDepth 100000
set_option linter.unusedVariables false
set_option linter.unusedSimpArgs false
open Go.RowKit
theorem wf_tok {s:Bs} {l:List TokD} (h:tokM s=some l):smTks l∧ ∀ t ∈ l,wfT t:=⟨sm_tok h,(tok_wf h).1⟩
end Go.Proofs.Ytnbjogilidfkdaa

/- Clean tokens are tokens that a text may be divided into. Plain. -/
namespace Go.Proofs.Ytnbjogilidfkdaa
set_option maxRecDepth 100000
set_option linter.unusedVariables false
set_option linter.unusedSimpArgs false
open Go.RowKit
theorem close_all {P:TokD→Prop} (he: ∀ n,P (tkEnd n)): ∀ (l:List TokD) (st:List Bs),(∀ t ∈ l,P t)→ ∀ t ∈ closeF st l,P t
 | [],st,_=>by
   rw [close_nil]
   intro t ht
   obtain ⟨n,hn,rfl⟩:=List.mem_map.1 ht
   exact he n
 | t::r,st,h=>by
   have ht:=h t List.mem_cons_self
   have hr: ∀ u ∈ r,P u:=fun u hu=>h u (List.mem_cons_of_mem _ hu)
   by_cases h3:t.kind=3
   · rw [close_3 h3]
     cases st with
     | nil=>exact close_all he r [] hr
     | cons n q =>
       dsimp only
       split
       · intro u hu
         rcases List.mem_cons.1 hu with rfl|hu
         · exact ht
         · exact close_all he r q hr u hu
       · exact close_all he r (n::q) hr
   · by_cases h2:t.kind=2∧voidN t.name=false
     · rw [close_2 h2.1 h2.2]
       intro u hu
       rcases List.mem_cons.1 hu with rfl|hu
       · exact ht
       · exact close_all he r _ hr u hu
     · rw [close_o h3 h2]
       intro u hu
       rcases List.mem_cons.1 hu with rfl|hu
       · exact ht
       · exact close_all he r st hr u hu
theorem add_all {P:TokD→Prop} (hv: ∀ (u:TokD) (v:Bs),P u→P { u with value:=v }) {l:List TokD} {t:TokD} (h: ∀ u ∈ l,P u) (ht:P t): ∀ u ∈ addT l t,P u:=by
 rcases snoc_cases l with rfl|⟨q,w,rfl⟩
 · intro u hu
   obtain rfl:u=t:=by simpa [addT_nil] using hu
   exact ht
 · rw [addT_snoc]
   split
   · intro u hu
     rcases List.mem_append.1 hu with hu|hu
     · exact h u (List.mem_append_left _ hu)
     · obtain rfl:u=_:=by simpa using hu
       exact hv w _ (h w (by simp))
   · intro u hu
     rcases List.mem_append.1 hu with hu|hu
     · exact h u (List.mem_append_left _ hu)
     · rcases List.mem_cons.1 hu with rfl|hu
       · exact h u (by simp)
       · obtain rfl:u=t:=by simpa using hu
         exact ht
theorem join_all {P:TokD→Prop} (hv: ∀ (u:TokD) (v:Bs),P u→P { u with value:=v }) {l:List TokD} (h: ∀ u ∈ l,P u): ∀ u ∈ joinM l,P u:=by
 have key: ∀ (l q:List TokD),(∀ u ∈ l,P u)→(∀ u ∈ q,P u)→ ∀ u ∈ l.foldl addT q,P u:=by
  intro l
  induction l with
  | nil=>intro q _ h;exact h
  | cons t r ih =>
    intro q hl hq
    exact ih _ (fun u hu=>hl u (List.mem_cons_of_mem _ hu)) (add_all hv hq (hl t List.mem_cons_self))
 exact key l [] h (fun u hu=>by cases hu)
theorem wf_clean {l:List TokD} (h: ∀ t ∈ l,wfT t): ∀ t ∈ cleanMk l,wfT t:=by
 refine join_all (fun u v hu=>hu) (close_all (fun n=>⟨.inr (.inr (.inl rfl)),fun _=>rfl⟩) _ [] ?_)
 intro t ht
 obtain ⟨u,hu,rfl⟩:=List.mem_map.1 ht
 obtain ⟨h1,h2⟩:=h u (List.mem_filter.1 hu).1
 refine ⟨h1,fun hk=>?_⟩
 show u.pairs.filter _=[]
 rw [h2 hk]
 rfl
end Go.Proofs.Ytnbjogilidfkdaa
