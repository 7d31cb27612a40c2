/- Two filled templates and their tokens: a hole's value comes back; an address stays safe. Plain. -/
import Derived.Test.YtnbjogilidfkdaaGreatUK20
import Derived.Test.YtnbjogilidfkdaaGreatUK3
import Derived.Test.YtnbjogilidfkdaaGreatUX9

namespace Go.Proofs.YtnbjogilidfkdaaGreat
set_option maxRecDepth 100000
set_option linter.unusedVariables false
set_option linter.unusedSimpArgs false
open Go.RowKit
def hv1:Bs:=[60,112,32,116,105,116,108,101,61,34]
def hv2:Bs:=[34,62]
end Go.Proofs.YtnbjogilidfkdaaGreat

/- Data of one shape: the same skeleton. Trusted markup in templates. Plain. -/
namespace Go.Proofs.YtnbjogilidfkdaaGreat
set_option maxRecDepth 100000
set_option linter.unusedVariables false
set_option linter.unusedSimpArgs false
open Go.RowKit
inductive Path:St→List Ev→List Ev→St→Prop
 | nil (s:St):Path s [] [] s
 | txt {s s':St} (t:Bs) {l m:List Ev} (h:Path (afterS s t) l m s'):Path s (.txt t::l) (.txt t::m) s'
 | hole {s s':St} {f g:FieldD} {l m:List Ev} (hp:placeM s≠0) (hs:f.holds=g.holds) (h:Path (behindM s) l m s'):Path s (.hole f s::l) (.hole g s::m) s'
theorem Path.app {s r q:St} {l m l' m':List Ev} (h:Path s l m r) (h':Path r l' m' q):Path s (l++l') (m++m') q:=by
 induction h with
 | nil s=>exact h'
 | txt t h ih=>exact .txt t (ih h')
 | hole hp hs h ih=>exact .hole hp hs (ih h')
/-- Fields alike but for their texts. -/
def likeF (f g:FieldD):Prop:=f.name=g.name∧f.holds=g.holds∧f.items.length=g.items.length
def likeD:List FieldD→List FieldD→Prop
 | [],[]=>True
 | f::a,g::b=>likeF f g∧likeD a b
 | _,_=>False
theorem like_find: ∀ {a b:List FieldD},likeD a b→ ∀ n,(findF a n).holds=(findF b n).holds∧(findF a n).items.length=(findF b n).items.length
 | [],[],_,n=>⟨rfl,rfl⟩
 | [],_::_,h,n=>h.elim
 | _::_,[],h,n=>h.elim
 | f::a,g::b,h,n=>by
   obtain ⟨⟨h1,h2,h3⟩,h4⟩:=h
   unfold findF
   rw [← h1]
   split
   · exact ⟨h2,h3⟩
   · exact like_find h4 n
theorem like_with {a b:List FieldD} (h:likeD a b) (t u:Bs):likeD (withF a t) (withF b u):=by
 refine ⟨⟨rfl,rfl,rfl⟩,?_⟩
 have key: ∀ {a b:List FieldD},likeD a b→likeD (a.filter fun f=>!decide (f.name=itemN)) (b.filter fun f=>!decide (f.name=itemN)):=by
  intro a
  induction a with
  | nil=>intro b h;cases b with
    | nil=>trivial
    | cons g b=>exact h.elim
  | cons f a ih =>
    intro b h
    cases b with
    | nil=>exact h.elim
    | cons g b =>
      obtain ⟨h1,h2⟩:=h
      have ih:=ih h2
      rw [List.filter_cons,List.filter_cons,h1.1]
      split
      · exact ⟨h1,ih⟩
      · exact ih
 exact key h
theorem like_refl: ∀ a:List FieldD,likeD a a
 | []=>trivial
 | f::a=>⟨⟨rfl,rfl,rfl⟩,like_refl a⟩
theorem path_flat {s:St} {g h:Bs→List Ev}: ∀ (l m:List Bs),l.length=m.length→(∀ x ∈ l,∀ y ∈ m,Path s (g x) (h y) s)→Path s (l.flatMap g) (m.flatMap h) s
 | [],[],_,_=> .nil s
 | [],_::_,e,_=>by cases e
 | _::_,[],e,_=>by cases e
 | x::l,y::m,e,hp=>by
   rw [List.flatMap_cons,List.flatMap_cons]
   exact (hp x (by simp) y (by simp)).app (path_flat l m (by simpa using e) (fun a ha b hb=>hp a (by simp [ha]) b (by simp [hb])))
mutual
theorem ev_pathP: ∀ (x:PartD) (d:Nat) (a b:List FieldD) (s:St),gdP d x=true→(chkP s x).mode≠15→stV s=true→likeD a b→Path s (evP a s x).1 (evP b s x).1 (chkP s x)
 | .mk k t n ps os,d,a,b,s,hg,hm,hv,hl=>by
   have hst:=ev_chkP (.mk k t n ps os) d a s hg hm
   obtain ⟨hf1,hf2⟩:=like_find hl n
   rw [gdP_mk] at hg
   rw [chkP_mk] at hm ⊢
   rw [evP_mk,evP_mk]
   by_cases k1:k=1
   · rw [if_pos k1,if_pos k1,if_pos k1]
     exact .txt t (.nil _)
   rw [if_neg k1] at hg hm ⊢
   rw [if_neg k1,if_neg k1]
   by_cases k2:k=2
   · rw [if_pos k2] at hm ⊢
     rw [if_pos k2,if_pos k2]
     refine .hole (fun hp=>?_) hf1 (.nil _)
     have:behindM s=bad:=by unfold behindM;rw [if_pos hp]
     rw [this] at hm
     exact hm rfl
   rw [if_neg k2] at hg hm ⊢
   rw [if_neg k2,if_neg k2]
   by_cases k34:k=3∨k=4
   · rw [if_pos k34] at hg
     simp only [Bool.and_eq_true] at hg
     by_cases k4:k=4
     · rw [if_pos k4] at hm ⊢
       rw [if_neg (show ¬ k=3 by omega),if_pos k4,if_neg (show ¬ k=3 by omega),if_pos k4]
       by_cases e:chkL s ps=s
       · rw [if_pos e] at hm ⊢
         refine path_flat _ _ hf2 fun it _ it' _=>?_
         have h9:=ev_pathL ps (d - 1) (withF a it) (withF b it') s false hg.1.2 (by rw [e];exact hm) hv (like_with hl it it')
         rw [e] at h9
         exact h9
       · rw [if_neg e] at hm;exact absurd rfl hm
     · rw [if_neg k4] at hm ⊢
       rw [if_pos (show k=3 by omega),if_pos (show k=3 by omega),← hf1]
       by_cases e:chkL s ps=chkL s os
       · rw [if_pos e] at hm ⊢
         split
         · exact ev_pathL ps (d - 1) a b s false hg.1.2 hm hv hl
         · rw [e] at hm ⊢;exact ev_pathL os (d - 1) a b s false hg.2 hm hv hl
       · rw [if_neg e] at hm;exact absurd rfl hm
   · rw [if_neg k34] at hg;cases hg
theorem ev_pathL: ∀ (xs:List PartD) (d:Nat) (a b:List FieldD) (s:St) (q:Bool),gdL d q xs=true→(chkL s xs).mode≠15→stV s=true→likeD a b→Path s (evL a s xs).1 (evL b s xs).1 (chkL s xs)
 | [],d,a,b,s,q,_,_,_,_=>by rw [evL_nil,evL_nil,chkL_nil];exact .nil s
 | x::xs,d,a,b,s,q,hg,hm,hv,hl=>by
   rw [gdL] at hg
   simp only [Bool.and_eq_true] at hg
   rw [chkL_cons] at hm ⊢
   rw [evL_cons,evL_cons]
   by_cases e:(chkP s x).mode=15
   · rw [if_pos e] at hm;exact absurd rfl hm
   · rw [if_neg e] at hm ⊢
     have h1:=ev_pathP x d a b s hg.1.1 e hv hl
     have h2:=ev_chkP x d a s hg.1.1 e
     have h3:=ev_chkP x d b s hg.1.1 e
     rw [h2,h3]
     have hv2:stV (chkP s x)=true:=by
      have:=stV_chkL [x] s hv
      rw [chkL_cons,if_neg e,chkL_nil] at this
      exact this
     exact h1.app (ev_pathL xs d a b _ _ hg.2 hm hv2 hl)
end
def sk1 (t:TokD):List Bs :=
 if t.kind=2 then [60::t.name++t.pairs.flatMap fun p=>32::p.1]
 else if t.kind=3 then [47::t.name]
 else if t.kind=4 then [[33]]
 else if t.kind=5 then [[36]]
 else []
def skelM (l:List TokD):List Bs:=l.flatMap sk1
structure Sk (s:St) (x y:TkI):Prop where
 okx:TkOk x
 oky:TkOk y
 sx:sim s x.s
 sy:sim s y.s
 out:skelM x.out=skelM y.out
 ps:x.ps.map Prod.fst=y.ps.map Prod.fst
 raw:11≤s.mode∧s.mode≤14→x.raw=y.raw∨((if s.mode=12∨s.mode=13 then 1 else 2)≤x.raw.length∧(if s.mode=12∨s.mode=13 then 1 else 2)≤y.raw.length)
 ne:s.mode=12∨s.mode=13→1≤x.raw.length∧1≤y.raw.length
theorem tkStep_s {x y:TkI} {b:UInt8} (e:tkStep x b=some y):y.s=step x.s b:=by
 unfold tkStep at e
 split at e
 · cases e
 split at e
 · split at e
   · cases e
   · cases e;rfl
 · cases e;rfl
theorem fold_s: ∀ (t:Bs) {x y:TkI},TkOk x→tkFold x t=some y→y.s=run x.s t
 | [],x,y,_,e=>by cases e;rfl
 | b::t,x,y,h,e=>by
   rw [tkFold_cons] at e
   cases hq:tkStep x b with
   | none=>rw [hq] at e;cases e
   | some z =>
     rw [hq] at e
     rw [run_cons,← tkStep_s hq]
     exact fold_s t (tk_ok h hq) e
end Go.Proofs.YtnbjogilidfkdaaGreat

/- Templates with trusted markup. Plain. -/
namespace Go.Proofs.YtnbjogilidfkdaaGreat
set_option maxRecDepth 100000
set_option linter.unusedVariables false
set_option linter.unusedSimpArgs false
open Go.RowKit
def trustB (f:FieldD) (s:St):Bool:=decide (placeM s=1) && f.holds && msM f.text
def outM:Ev→Bs
 | .txt t=>t
 | .hole f s=>if trustB f s=true then f.text else escFor (placeM s) f.text
theorem outM_hole (f:FieldD) (s:St):outM (.hole f s)=if trustB f s=true then f.text else escFor (placeM s) f.text:=rfl
def mixM (xs:List PartD) (data:List FieldD):Option Bs:=if safeM xs=true∧dataB data=true then some (cat outM (evL data st0 xs).1) else none
theorem outM_len (e:Ev):(outM e).length≤wE e:=by
 cases e with
 | txt t=>show t.length≤_;rw [wE_txt];omega
 | hole f s =>
   have h:=escFor_len (placeM s) f.text
   rw [wE_hole,outM_hole]
   split<;>omega
/-- What is divided into tokens ends where it began. -/
theorem tok_st {t:Bs} {l:List TokD} (h:tokM t=some l):run st0 t=st0:=by
 unfold tokM at h
 split at h
 · cases hf:tkFold tkI0 t with
   | none=>rw [hf] at h;cases h
   | some y =>
     rw [hf] at h
     have h:tkFin y=some l:=h
     have hs:=fold_s t tkI0_ok hf
     have hv:=stV_run stV_st0 t
     unfold tkFin at h
     split at h
     · cases h
     · rename_i hm
       have hm:y.s.mode=0:=Classical.byContradiction hm
       have hs:y.s=run st0 t:=hs
       rw [hs] at hm
       exact st_mode0 hv hm
 · cases h
theorem ms_st {t:Bs} (h:msM t=true):run st0 t=st0:=by
 unfold msM at h
 cases ht:tokM t with
 | none=>rw [ht] at h;cases h
 | some l=>exact tok_st ht
theorem hole_simM {s r:St} {f:FieldD} (h:sim s r) (hp:placeM s≠0):sim (behindM s) (run r (outM (.hole f s))):=by
 rw [outM_hole]
 split
 · rename_i ht
   unfold trustB at ht
   simp only [Bool.and_eq_true,decide_eq_true_eq] at ht
   rcases place_mode hp with ⟨m,p⟩|⟨m,p⟩|⟨m,p,_⟩
   · have e:=sim_eq h (by omega)
     have e0:=st_mode0 h.1 m
     have hb:behindM s=s:=by unfold behindM;rw [if_neg hp,if_neg (by omega)]
     rw [hb,e,e0,ms_st ht.2]
     exact sim_refl stV_st0
   · omega
   · omega
 · exact hole_sim h hp f.text
theorem path_sim {s s':St} {l m:List Ev} (hp:Path s l m s'): ∀ {r:St},sim s r→sim s' (run r (cat outM l)):=by
 induction hp with
 | nil s=>intro r h;exact h
 | @txt s s' t l m hq ih =>
   intro r h
   rw [cat_cons,run_append]
   have e9:afterS s t=run s t:=by unfold afterS;rw [if_pos h.1]
   rw [e9] at ih
   exact ih (run_sim h t)
 | @hole s s' f g l m hp hs hq ih =>
   intro r h
   rw [cat_cons,run_append]
   exact ih (hole_simM h hp)
/-- Trusted markup ends where it began. -/
theorem mix_state {xs:List PartD} {data:List FieldD} {o:Bs} (h:mixM xs data=some o):afterS st0 o=st0:=by
 unfold mixM at h
 split at h
 · rename_i hs
   cases h
   obtain ⟨_,hg,hc,hm⟩:=safe_parts hs.1
   have hp:=ev_pathL xs 3 data data st0 false hg hm stV_st0 (like_refl data)
   have h1:=path_sim hp (sim_refl stV_st0)
   rw [hc] at h1
   unfold afterS
   rw [if_pos stV_st0]
   exact sim_eq h1 (by decide)
 · cases h
def noHold (l:List FieldD):Prop:= ∀ f ∈ l,f.holds=false
theorem no_find: ∀ {l:List FieldD},noHold l→ ∀ n,(findF l n).holds=false
 | [],_,n=>rfl
 | f::l,h,n=>by
   unfold findF
   split
   · exact h f List.mem_cons_self
   · exact no_find (fun g hg=>h g (List.mem_cons_of_mem _ hg)) n
theorem no_with {l:List FieldD} (h:noHold l) (t:Bs):noHold (withF l t):=by
 intro f hf
 unfold withF at hf
 rcases List.mem_cons.1 hf with rfl|hf
 · rfl
 · exact h f (List.mem_filter.1 hf).1
def evNo (l:List Ev):Prop:=cat outM l=cat outS l
theorem evNo_app {l m:List Ev} (h:evNo l) (h':evNo m):evNo (l++m):=by
 unfold evNo at *
 rw [cat_append,cat_append,h,h']
theorem evNo_flat {α:Type} {g:α→List Ev}: ∀ l:List α,(∀ x ∈ l,evNo (g x))→evNo (l.flatMap g)
 | [],_=>rfl
 | x::l,h=>by
   rw [List.flatMap_cons]
   exact evNo_app (h x List.mem_cons_self) (evNo_flat l fun y hy=>h y (List.mem_cons_of_mem _ hy))
mutual
theorem no_evP: ∀ (x:PartD) (data:List FieldD) (s:St),noHold data→evNo (evP data s x).1
 | .mk k t n ps os,data,s,h=>by
   rw [evP_mk]
   split
   · rfl
   split
   · unfold evNo
     rw [cat_cons,cat_cons]
     have:trustB (findF data n) s=false:=by unfold trustB;rw [no_find h n];simp
     simp [cat,outM,outS,this]
   split
   · rw [if_neg (by rw [no_find h n];decide)]
     exact no_evL os data s h
   split
   · exact evNo_flat _ fun it _=>no_evL ps _ s (no_with h it)
   · rfl
theorem no_evL: ∀ (xs:List PartD) (data:List FieldD) (s:St),noHold data→evNo (evL data s xs).1
 | [],data,s,h=>by rw [evL_nil];rfl
 | x::xs,data,s,h=>by
   rw [evL_cons]
   exact evNo_app (no_evP x data s h) (no_evL xs data _ h)
end
theorem mix_fill {xs:List PartD} {data:List FieldD} (h:noHold data):mixM xs data=fillM xs data:=by
 unfold mixM fillM
 have:=no_evL xs data st0 h
 unfold evNo at this
 rw [this]
end Go.Proofs.YtnbjogilidfkdaaGreat
