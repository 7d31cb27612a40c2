/- Short texts that end where they began are divided into tokens. Plain. -/
import Derived.Test.YtnbjogilidfkdaaGreatVK3

namespace Go.Proofs.YtnbjogilidfkdaaGreat
set_option maxRecDepth 100000
set_option linter.unusedVariables false
set_option linter.unusedSimpArgs false
open Go.RowKit
def wT (x:TkI):Nat:=if x.s.mode=0∨11≤x.s.mode then x.raw.length else if x.s.mode=1 then 0 else 1
def bndT (n:Nat) (x:TkI):Prop:=2 * x.out.length+wT x≤n∧2 * x.ps.length+(if x.s.mode=3 then 1 else 0)≤n
set_option maxHeartbeats 4000000 in
theorem long_step {x:TkI} {n:Nat} {b:UInt8} (hok:TkOk x) (hb:bndT n x) (n15:(step x.s b).mode≠15) (hn:n≤100): ∃ y,tkStep x b=some y∧bndT (n+1) y:=by
 have hm:=(step_modes hok.v b).resolve_left n15
 obtain ⟨h1,h2⟩:=hb
 by_cases hcl:(2≤x.s.mode∧x.s.mode≤8)∧((step x.s b).mode=0∨(step x.s b).mode=11)
 · have hraw:x.raw=[]:=Classical.byContradiction fun h8=>by have:=hok.raw h8;omega
   refine ⟨_,by rw [tkStep_end n15 hcl,if_neg (by omega)],?_,?_⟩
   · unfold wT at *
     dsimp only
     rw [if_pos (by omega),hraw,List.length_append]
     rw [if_neg (by omega),if_neg (by omega)] at h1
     simp
     omega
   · dsimp only
     rw [if_neg (by omega)]
     simp
 · refine ⟨_,tkStep_go n15 hcl,?_⟩
   have hraw:=hok.raw
   have hps:=hok.ps
   have hz:=hok.z
   have hl:=hok.less
   obtain ⟨xs,raw,ps,out⟩:=x
   dsimp only at *
   unfold bndT wT at *
   dsimp only at *
   have hraw0:(1≤xs.mode∧xs.mode≤9)→raw=[]:=fun h9=>Classical.byContradiction fun h8=>by have:=hraw h8;omega
   generalize step xs b=m at *
   by_cases h48:4≤xs.mode∧xs.mode≤8
   · obtain ⟨l,v,rfl⟩:=hps h48
     have hr:=hraw0 (by omega)
     subst hr
     rcases hm with ⟨m,_⟩|⟨m,_⟩|⟨m,_⟩|⟨m,_⟩|⟨m,m'|m'|⟨m',ha⟩|m'|m'⟩|⟨m,m'|m'|m',ha⟩|⟨m,m'|⟨m',ha⟩⟩|⟨m,m'|⟨m',ha⟩⟩|⟨m,m'|⟨m',ha⟩|m'|m'⟩|⟨m,_⟩|⟨m,_⟩|⟨m,_⟩|⟨m,_⟩|⟨m,_⟩|⟨m,_⟩
     all_goals first
      | (exfalso;omega)
      | (simp [m] at h1 h2;simp [rawI,prsI,m,m',lastP_snoc];omega)
   · by_cases h23:xs.mode=2∨xs.mode=3
     · have hr:=hraw0 (by omega)
       subst hr
       rcases hm with ⟨m,_⟩|⟨m,_⟩|⟨m,m'|m'|m'|m'⟩|⟨m,m'|m'|m'|m'⟩|⟨m,_⟩|⟨m,_⟩|⟨m,_⟩|⟨m,_⟩|⟨m,_⟩|⟨m,_⟩|⟨m,_⟩|⟨m,_⟩|⟨m,_⟩|⟨m,_⟩|⟨m,_⟩
       all_goals first
        | (exfalso;omega)
        | (simp [m] at h1 h2;simp [rawI,prsI,m,m'];omega)
     · have hz:=hz (by omega)
       subst hz
       have hlen: ∀ l:List TokD,∀ t:TokD,(if 1<raw.length then l++[t] else l).length=l.length+(if 1<raw.length then 1 else 0):=by intro l t;split<;>simp
       have hlen0: ∀ l:List TokD,∀ t:TokD,(if raw=[] then l else l++[t]).length=l.length+(if raw=[] then 0 else 1):=by intro l t;split<;>simp
       have hr0:raw=[]∨1≤raw.length:=by cases raw<;>simp
       rcases hm with ⟨m,m'|m'⟩|⟨m,m'|m'|m'⟩|⟨m,_⟩|⟨m,_⟩|⟨m,_⟩|⟨m,_⟩|⟨m,_⟩|⟨m,_⟩|⟨m,_⟩|⟨m,m'|m'⟩|⟨m,m'|m'⟩|⟨m,m'|m'|m'⟩|⟨m,m'|m'|m'⟩|⟨m,m'⟩|⟨m,m'|m'|m'|m'⟩
       all_goals first
        | (exfalso;omega)
        | (simp [m] at h1 h2;simp [rawI,prsI,m,m'];omega)
        | (simp [m] at h1 h2;simp [rawI,prsI,m,m',hlen,hlen0];rcases hr0 with rfl|hr0<;>(try simp at h1 ⊢)<;>(repeat' split)<;>(try simp_all)<;>omega)
        | (have h9:=hl m;simp [m] at h1 h2;simp [rawI,prsI,m,m',hlen,hlen0];rcases hr0 with rfl|hr0<;>(try simp at h9)<;>(repeat' split)<;>(try simp_all)<;>omega)
        | skip
theorem run_15 {s:St} (h:stV s=true) (hm:s.mode=15) (t:Bs):(run s t).mode=15:=by
 have e:s=bad:=by
  have h1:=stV_tag0 h (by omega)
  have h2:=stV_attr0 h (by omega)
  have h3:=stV_seen0 h (by omega)
  cases s
  dsimp only at *
  subst hm h1 h2 h3
  rfl
 rw [e,run_bad];rfl
theorem long_fold: ∀ (t:Bs) (x:TkI) (n:Nat),TkOk x→bndT n x→n+t.length≤100→(run x.s t).mode=0→ ∃ y,tkFold x t=some y∧TkOk y∧y.s=run x.s t∧bndT (n+t.length) y
 | [],x,n,hok,hb,_,_=>⟨x,rfl,hok,rfl,hb⟩
 | b::t,x,n,hok,hb,hn,hr=>by
   rw [List.length_cons] at hn
   rw [run_cons] at hr
   have n15:(step x.s b).mode≠15:=fun h=>by rw [run_15 (stV_step _ _) h] at hr;omega
   obtain ⟨y,e,hy⟩:=long_step hok hb n15 (by omega)
   have hys:y.s=step x.s b:=by
    by_cases hcl:(2≤x.s.mode∧x.s.mode≤8)∧((step x.s b).mode=0∨(step x.s b).mode=11)
    · rw [tkStep_end n15 hcl] at e
      split at e
      · cases e
      · cases e;rfl
    · rw [tkStep_go n15 hcl] at e
      cases e;rfl
   obtain ⟨z,h1,h2,h3,h4⟩:=long_fold t y (n+1) (tk_ok hok e) hy (by omega) (by rw [hys];exact hr)
   refine ⟨z,by rw [fold_one e,h1],h2,by rw [h3,hys,run_cons],?_⟩
   rw [List.length_cons,show n+(t.length+1)=n+1+t.length by omega]
   exact h4
/-- Short texts that end where they began have tokens. -/
theorem long_tok {t:Bs} (ht:textB t=true) (hl:t.length≤100) (hs:afterS st0 t=st0):(tokM t).isSome=true:=by
 unfold afterS at hs
 rw [if_pos stV_st0] at hs
 obtain ⟨y,h1,h2,h3,h4⟩:=long_fold t tkI0 0 tkI0_ok ⟨by simp [tkI0,wT,st0],by simp [tkI0,st0]⟩ (by omega) (by show (run st0 t).mode=0;rw [hs];rfl)
 have hy:y.s=st0:=h3.trans hs
 unfold tokM
 rw [if_pos ht,h1]
 show (tkFin y).isSome=true
 have hw:=h4.1
 unfold wT at hw
 rw [hy,if_pos (.inl rfl),Nat.zero_add] at hw
 have hlen:(if y.raw=[] then y.out else y.out++[tkText (unT y.raw)]).length≤60:=by
  split
  · omega
  · rw [List.length_append,List.length_singleton];omega
 unfold tkFin
 generalize (if y.raw=[] then y.out else y.out++[tkText (unT y.raw)])=Z at hlen
 rw [hy,if_neg (by simp [st0]),if_neg (by omega)];rfl
end Go.Proofs.YtnbjogilidfkdaaGreat
