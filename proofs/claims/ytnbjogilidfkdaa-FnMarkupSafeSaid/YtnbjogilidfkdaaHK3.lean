/- Data; what comes when parts are filled in: as data. No program. -/
import Derived.Test.YtnbjogilidfkdaaHTY
import Derived.Test.YtnbjogilidfkdaaHFP
import Derived.Test.YtnbjogilidfkdaaHFE

namespace Go.Proofs.Ytnbjogilidfkdaa
set_option maxRecDepth 100000
set_option linter.unusedVariables false
set_option linter.unusedSimpArgs false
open Go.RowKit
structure FieldD where
 name:Bs
 text:Bs
 holds:Bool
 items:List Bs
 deriving DecidableEq
def strs (l:List Bs):List (List PV):=l.map fun t=>[.str t]
end Go.Proofs.Ytnbjogilidfkdaa

/- Tokens of markup: what is read, as the program and as the reference do. Plain. -/
namespace Go.Proofs.Ytnbjogilidfkdaa
set_option maxRecDepth 100000
set_option linter.unusedVariables false
set_option linter.unusedSimpArgs false
open Go.RowKit
structure TokD where
 kind:Int
 name:Bs
 value:Bs
 pairs:List (Bs×Bs)
 deriving DecidableEq
def encPr (p:Bs×Bs):List PV:=[.str p.1,.str p.2]
def encPrs (l:List (Bs×Bs)):List (List PV):=l.map encPr
def encTk (t:TokD):List PV:=[.int .i64 t.kind,.str t.name,.str t.value,.seq (encPrs t.pairs)]
def encTks (l:List TokD):List (List PV):=l.map encTk
def tkText (v:Bs):TokD:=⟨1,[],v,[]⟩
def tkOpen (n:Bs) (ps:List (Bs×Bs)):TokD:=⟨2,n,[],ps⟩
def tkEnd (n:Bs):TokD:=⟨3,n,[],[]⟩
def tkCom (v:Bs):TokD:=⟨4,[],v,[]⟩
def tkScr (v:Bs):TokD:=⟨5,[],v,[]⟩
def unPs (ps:List (Bs×Bs)):List (Bs×Bs):=ps.map fun p=>(p.1,unT p.2)
/-- The last attribute, turned. -/
def lastP (g:Bs×Bs→Bs×Bs):List (Bs×Bs)→List (Bs×Bs)
 | []=>[]
 | [p]=>[g p]
 | p::q::r=>p::lastP g (q::r)
theorem lastP_snoc (g:Bs×Bs→Bs×Bs): ∀ (l:List (Bs×Bs)) (p:Bs×Bs),lastP g (l++[p])=l++[g p]
 | [],p=>rfl
 | [q],p=>by simp [lastP]
 | q::r::l,p=>by
   have:=lastP_snoc g (r::l) p
   simpa [lastP] using this
structure TkI where
 s:St
 raw:Bs
 ps:List (Bs×Bs)
 out:List TokD
def tkI0:TkI:=⟨st0,[],[],[]⟩
/-- The texts: behind a byte, where the state behind it is n. -/
def rawI (x:TkI) (n:St) (b:UInt8):Bs×List TokD :=
 if x.s.mode=0∧n.mode=0 then (x.raw++[b],x.out)
 else if x.s.mode=0 then ([],if x.raw=[] then x.out else x.out++[tkText (unT x.raw)])
 else if x.s.mode=1∧n.mode=2 then (x.raw,x.out)
 else if x.s.mode=9∧n.mode=0 then (x.raw,x.out++[tkEnd x.s.tag])
 else if x.s.mode=10∧n.mode=0 then ([],x.out++[tkCom x.raw])
 else if x.s.mode=10 then (x.raw++[b],x.out)
 else if x.s.mode=14∧n.mode=9 then ([],if 1<x.raw.length then x.out++[tkScr x.raw.dropLast] else x.out)
 else if 11≤x.s.mode then (x.raw++[b],x.out)
 else (x.raw,x.out)
def prsI (x:TkI) (n:St) (b:UInt8):List (Bs×Bs) :=
 if x.s.mode=1∧n.mode=2 then []
 else if 2≤x.s.mode∧x.s.mode≤8 then
  (if n.mode=4∧x.s.mode=3 then x.ps++[(n.attr,[])]
   else if n.mode=4 then lastP (fun p=>(n.attr,p.2)) x.ps
   else if n.mode=8∨x.s.mode=n.mode∧(n.mode=6∨n.mode=7) then lastP (fun p=>(p.1,p.2++[b])) x.ps
   else if n.mode=0∨n.mode=11 then []
   else x.ps)
 else x.ps
def tkStep (x:TkI) (b:UInt8):Option TkI :=
 if (step x.s b).mode=15 then none
 else if (2≤x.s.mode∧x.s.mode≤8)∧((step x.s b).mode=0∨(step x.s b).mode=11) then
  (if 60<x.ps.length then none else some ⟨step x.s b,x.raw,[],x.out++[tkOpen x.s.tag (unPs x.ps)]⟩)
 else some ⟨step x.s b,(rawI x (step x.s b) b).1,prsI x (step x.s b) b,(rawI x (step x.s b) b).2⟩
def tkFold:TkI→Bs→Option TkI
 | x,[]=>some x
 | x,b::t=>(tkStep x b).bind fun y=>tkFold y t
def tkFin (x:TkI):Option (List TokD) :=
 if x.s.mode≠0 then none
 else if (if x.raw=[] then x.out else x.out++[tkText (unT x.raw)]).length > 60 then none
 else some (if x.raw=[] then x.out else x.out++[tkText (unT x.raw)])
def tokM (t:Bs):Option (List TokD):=if textB t=true then (tkFold tkI0 t).bind tkFin else none
theorem tkFold_cons (x:TkI) (b:UInt8) (t:Bs):tkFold x (b::t)=(tkStep x b).bind fun y=>tkFold y t:=rfl
theorem tkFold_append: ∀ (t u:Bs) (x:TkI),tkFold x (t++u)=(tkFold x t).bind fun y=>tkFold y u
 | [],u,x=>rfl
 | b::t,u,x=>by
   rw [List.cons_append,tkFold_cons,tkFold_cons]
   cases tkStep x b with
   | none=>rfl
   | some y=>exact tkFold_append t u y
/-- The state, the text and the attributes fit: where an attribute is read there is one. -/
structure TkOk (x:TkI):Prop where
 v:stV x.s=true
 raw:x.raw≠[]→x.s.mode=0∨10≤x.s.mode
 ps:4≤x.s.mode∧x.s.mode≤8→ ∃ l v,x.ps=l++[(x.s.attr,v)]
 z: ¬ (2≤x.s.mode∧x.s.mode≤8)→x.ps=[]
 less:x.s.mode=14→x.raw≠[]
theorem tkI0_ok:TkOk tkI0:=⟨stV_st0,fun h=>absurd rfl h,fun h=>by simp [tkI0,st0] at h,fun _=>rfl,fun h=>by simp [tkI0,st0] at h⟩
/-- Where a byte leads from a mode. -/
theorem step_modes {s:St} (h:stV s=true) (b:UInt8):(step s b).mode=15 ∨
 (s.mode=0∧((step s b).mode=0∨(step s b).mode=1)) ∨
 (s.mode=1∧((step s b).mode=2∨(step s b).mode=9∨(step s b).mode=10)) ∨
 (s.mode=2∧((step s b).mode=2∨(step s b).mode=3∨(step s b).mode=0∨(step s b).mode=11)) ∨
 (s.mode=3∧((step s b).mode=3∨(step s b).mode=4∨(step s b).mode=0∨(step s b).mode=11)) ∨
 (s.mode=4∧((step s b).mode=3∨(step s b).mode=4∨(step s b).mode=5∧(step s b).attr=s.attr∨(step s b).mode=0∨(step s b).mode=11)) ∨
 (s.mode=5∧((step s b).mode=6∨(step s b).mode=7∨(step s b).mode=8)∧(step s b).attr=s.attr) ∨
 (s.mode=6∧((step s b).mode=3∨(step s b).mode=6∧(step s b).attr=s.attr)) ∨
 (s.mode=7∧((step s b).mode=3∨(step s b).mode=7∧(step s b).attr=s.attr)) ∨
 (s.mode=8∧((step s b).mode=3∨(step s b).mode=8∧(step s b).attr=s.attr∨(step s b).mode=0∨(step s b).mode=11)) ∨
 (s.mode=9∧((step s b).mode=0∨(step s b).mode=9)) ∨
 (s.mode=10∧((step s b).mode=0∨(step s b).mode=10)) ∨
 (s.mode=11∧((step s b).mode=11∨(step s b).mode=12∨(step s b).mode=14)) ∨
 (s.mode=12∧((step s b).mode=11∨(step s b).mode=12∨(step s b).mode=13)) ∨
 (s.mode=13∧(step s b).mode=12) ∨
 (s.mode=14∧((step s b).mode=9∨(step s b).mode=11∨(step s b).mode=12∨(step s b).mode=14)):=by
 rw [step_val h]
 have tagm:s.mode=2∨s.mode=3∨s.mode=4∨s.mode=8→stepV s b=stepTagM s b:=fun m=>stepV_t m
 rcases modes h with m|m|m|m|m|m|m|m|m|m|m|m|m
 · rw [stepV_0 m];split<;>simp [m,st0]
 · rw [stepV_1 m];(repeat' split)<;>simp [m,bad]
 · rw [stepV_t m]
   unfold stepTagM longT longA
   rcases m with m|m|m|m<;>(repeat' split)<;>simp_all [st0,bad]
 · rw [stepV_5 m];(repeat' split)<;>simp [m,bad]
 · rw [stepV_6 m];(repeat' split)<;>simp [m]
 · rw [stepV_7 m];(repeat' split)<;>simp [m]
 · rw [stepV_9 m]
   unfold longT
   (repeat' split)<;>simp [m,bad,st0]
 · rw [stepV_10 m];(repeat' split)<;>simp [m,st0]
 · rw [stepV_11 m];(repeat' split)<;>simp [m]
 · rw [stepV_12 m];(repeat' split)<;>simp [m,bad]
 · rw [stepV_13 m];(repeat' split)<;>simp [m,bad]
 · rw [stepV_14 m];(repeat' split)<;>simp [m]
 · rw [stepV_15 m];simp [bad]
set_option maxHeartbeats 4000000 in
theorem tk_ok {x y:TkI} {b:UInt8} (h:TkOk x) (e:tkStep x b=some y):TkOk y:=by
 obtain ⟨hv,hr,hp,hz,hl⟩:=h
 have hv':=stV_step x.s b
 have hm:=step_modes hv b
 unfold tkStep at e
 generalize step x.s b=n at *
 obtain ⟨xs,raw,ps,out⟩:=x
 dsimp only at *
 have hraw: ¬ (xs.mode=0∨10≤xs.mode)→raw=[]:=fun h9=>Classical.byContradiction fun h8=>h9 (hr h8)
 split at e
 · cases e
 rename_i n15
 have hm:=hm.resolve_left n15
 split at e
 · rename_i hc
   split at e
   · cases e
   · cases e
     have:=hraw (by omega)
     subst this
     exact ⟨hv',fun h9=>absurd rfl h9,fun h9=>by dsimp only at *;omega,fun _=>rfl,fun h9=>by dsimp only at *;omega⟩
 · rename_i hc
   cases e
   by_cases h48:4≤xs.mode∧xs.mode≤8
   · obtain ⟨l,v,rfl⟩:=hp h48
     have:=hraw (by omega)
     subst this
     rcases hm with ⟨m,_⟩|⟨m,_⟩|⟨m,_⟩|⟨m,_⟩|⟨m,m'|m'|⟨m',ha⟩|m'|m'⟩|⟨m,m'|m'|m',ha⟩|⟨m,m'|⟨m',ha⟩⟩|⟨m,m'|⟨m',ha⟩⟩|⟨m,m'|⟨m',ha⟩|m'|m'⟩|⟨m,_⟩|⟨m,_⟩|⟨m,_⟩|⟨m,_⟩|⟨m,_⟩|⟨m,_⟩
     all_goals first
      | (exfalso;omega)
      | (refine ⟨hv',?_,?_,?_,?_⟩<;>simp [rawI,prsI,lastP_snoc, *];done)
      | (refine ⟨hv',?_,?_,?_,?_⟩<;>simp [rawI,prsI,m,m',lastP_snoc, *]<;>exact ⟨_,_,rfl⟩)
   · by_cases h23:xs.mode=2∨xs.mode=3
     · have:=hraw (by omega)
       subst this
       rcases hm with ⟨m,_⟩|⟨m,_⟩|⟨m,m'|m'|m'|m'⟩|⟨m,m'|m'|m'|m'⟩|⟨m,_⟩|⟨m,_⟩|⟨m,_⟩|⟨m,_⟩|⟨m,_⟩|⟨m,_⟩|⟨m,_⟩|⟨m,_⟩|⟨m,_⟩|⟨m,_⟩|⟨m,_⟩
       all_goals first
        | (exfalso;omega)
        | (refine ⟨hv',?_,?_,?_,?_⟩<;>simp [rawI,prsI,m,m'];done)
        | (refine ⟨hv',?_,?_,?_,?_⟩<;>simp [rawI,prsI,m,m']<;>exact ⟨_,_,rfl⟩)
     · have:=hz (by omega)
       subst this
       rcases hm with ⟨m,m'|m'⟩|⟨m,m'|m'|m'⟩|⟨m,_⟩|⟨m,_⟩|⟨m,_⟩|⟨m,_⟩|⟨m,_⟩|⟨m,_⟩|⟨m,_⟩|⟨m,m'|m'⟩|⟨m,m'|m'⟩|⟨m,m'|m'|m'⟩|⟨m,m'|m'|m'⟩|⟨m,m'⟩|⟨m,m'|m'|m'|m'⟩
       all_goals first
        | (exfalso;omega)
        | (refine ⟨hv',?_,?_,?_,?_⟩<;>simp [rawI,prsI,m,m']<;>(try (have:=hraw (by omega);simp_all));done)
        | skip
structure TkS where
 s:St
 buf:Bs
 ps:List (Bs×Bs)
 out:List TokD
def closeS (x:TkS):List (Bs×Bs):=if 4≤x.s.mode∧x.s.mode≤8 then x.ps++[(x.s.attr,unT x.buf)] else x.ps
def putTk (l:List TokD) (t:TokD):List TokD:=if (t.kind=1∨t.kind=5)∧t.value=[] then l else l++[t]
def tsStep (x:TkS) (b:UInt8):TkS :=
 if x.s.mode=0∧(step x.s b).mode=1 then ⟨step x.s b,[],[],putTk x.out (tkText (unT x.buf))⟩
 else if x.s.mode=10∧(step x.s b).mode=0 then ⟨step x.s b,[],x.ps,x.out++[tkCom x.buf]⟩
 else if x.s.mode=9∧(step x.s b).mode=0 then ⟨step x.s b,[],x.ps,x.out++[tkEnd x.s.tag]⟩
 else if (2≤x.s.mode∧x.s.mode≤8)∧((step x.s b).mode=0∨(step x.s b).mode=11) then ⟨step x.s b,[],closeS x,x.out++[tkOpen x.s.tag (closeS x)]⟩
 else if (2≤x.s.mode∧x.s.mode≤8)∧(step x.s b).mode=3 then ⟨step x.s b,[],closeS x,x.out⟩
 else if x.s.mode=14∧(step x.s b).mode=9 then ⟨step x.s b,[],x.ps,putTk x.out (tkScr x.buf.dropLast)⟩
 else if x.s.mode=0∨x.s.mode=10∨(11≤x.s.mode∧x.s.mode≤14)∨(step x.s b).seen=true then ⟨step x.s b,x.buf++[b],x.ps,x.out⟩
 else ⟨step x.s b,x.buf,x.ps,x.out⟩
def bigS (x:TkS):Bool:=decide (60<x.out.length) || decide (60<x.ps.length)
def tsFold:TkS→Bs→Option TkS
 | x,[]=>some x
 | x,b::t=>if bigS (tsStep x b)=true then none else tsFold (tsStep x b) t
def tsFin (x:TkS):Option (List TokD) :=
 if x.s.mode≠0∨(putTk x.out (tkText (unT x.buf))).length > 60 then none else some (putTk x.out (tkText (unT x.buf)))
def tsM (t:Bs):Option (List TokD):=(tsFold ⟨st0,[],[],[]⟩ t).bind fun x=>if textB t=true then tsFin x else none
end Go.Proofs.Ytnbjogilidfkdaa

/- Tokens of markup: the program's reading and the reference's agree. Plain. -/
namespace Go.Proofs.Ytnbjogilidfkdaa
set_option maxRecDepth 100000
set_option linter.unusedVariables false
set_option linter.unusedSimpArgs false
open Go.RowKit
theorem unT_ne {t:Bs}:unT t=[]↔t=[]:=by
 cases t with
 | nil=>simp [unT_nil]
 | cons b r =>
   rw [unT_cons]
   split<;>simp
theorem unPs_append (a b:List (Bs×Bs)):unPs (a++b)=unPs a++unPs b:=by simp [unPs]
theorem unPs_one (n v:Bs):unPs [(n,v)]=[(n,unT v)]:=rfl
theorem unPs_len (a:List (Bs×Bs)):(unPs a).length=a.length:=by simp [unPs]
theorem unPs_nil:unPs []=[]:=rfl
theorem put_text (l:List TokD) (t:Bs):putTk l (tkText (unT t))=if t=[] then l else l++[tkText (unT t)]:=by
 unfold putTk
 have h:=unT_ne (t:=t)
 by_cases ht:t=[]
 · rw [if_pos ⟨.inl rfl,h.2 ht⟩,if_pos ht]
 · rw [if_neg (fun hh=>ht (h.1 hh.2)),if_neg ht]
theorem put_scr (l:List TokD) (t:Bs):putTk l (tkScr t)=if t=[] then l else l++[tkScr t]:=by
 unfold putTk
 by_cases ht:t=[]
 · rw [if_pos ⟨.inr rfl,ht⟩,if_pos ht]
 · rw [if_neg (fun hh=>ht hh.2),if_neg ht]
theorem rawI_len (x:TkI) (n:St) (b:UInt8):x.out.length≤(rawI x n b).2.length:=by
 unfold rawI
 (repeat' split)<;>simp
theorem tkStep_out {x y:TkI} {b:UInt8} (e:tkStep x b=some y):x.out.length≤y.out.length:=by
 unfold tkStep at e
 split at e
 · cases e
 split at e
 · split at e
   · cases e
   · cases e;simp
 · cases e;exact rawI_len _ _ _
theorem dead_out: ∀ (t:Bs) (x:TkI),60<x.out.length→(tkFold x t).bind tkFin=none
 | [],x,h=>by
   show tkFin x=none
   unfold tkFin
   split
   · rfl
   · rw [if_pos]
     split
     · exact h
     · rw [List.length_append];omega
 | b::t,x,h=>by
   rw [tkFold_cons]
   cases e:tkStep x b with
   | none=>rfl
   | some y=>exact dead_out t y (Nat.lt_of_lt_of_le h (tkStep_out e))
theorem lastP_len (g:Bs×Bs→Bs×Bs): ∀ l:List (Bs×Bs),(lastP g l).length=l.length
 | []=>rfl
 | [p]=>rfl
 | p::q::r=>by
   have:=lastP_len g (q::r)
   simp [lastP,this]
/-- Where too many attributes were read, nothing comes. -/
theorem dead_ps: ∀ (t:Bs) (x:TkI),TkOk x→60<x.ps.length→(2≤x.s.mode∧x.s.mode≤8)→(tkFold x t).bind tkFin=none
 | [],x,_,_,hm=>by
   show tkFin x=none
   unfold tkFin
   rw [if_pos (by omega)]
 | b::t,x,hok,h,hm=>by
   rw [tkFold_cons]
   cases e:tkStep x b with
   | none=>rfl
   | some y =>
     have hy:=tk_ok hok e
     refine dead_ps t y hy ?_ ?_
     · unfold tkStep at e
       split at e
       · cases e
       split at e
       · first|(cases e;done)|(rw [if_pos h] at e;cases e)
       · rename_i hc
         cases e
         have h1: ¬ (x.s.mode=1∧(step x.s b).mode=2):=by omega
         dsimp only
         unfold prsI
         rw [if_neg h1,if_pos hm]
         split
         · rw [List.length_append];omega
         split
         · rw [lastP_len];exact h
         split
         · rw [lastP_len];exact h
         split
         · exfalso;omega
         · exact h
     · have hs:=step_modes hok.v b
       unfold tkStep at e
       split at e
       · cases e
       rename_i n15
       split at e
       · first|(cases e;done)|(rw [if_pos h] at e;cases e)
       · rename_i hc
         cases e
         dsimp only
         generalize step x.s b=n at *
         omega
theorem dead_s15: ∀ (t:Bs) (y:TkS),y.s.mode=15→(tsFold y t).bind tsFin=none
 | [],y,h=>by
   show tsFin y=none
   unfold tsFin
   rw [if_pos (.inl (by omega))]
 | b::t,y,h=>by
   rw [tsFold]
   split
   · rfl
   · refine dead_s15 t _ ?_
     have hs:(step y.s b).mode=15:=by
      unfold step
      split
      · rw [stepV_15 h];rfl
      · rfl
     unfold tsStep
     (repeat' split)<;>exact hs
theorem tsStep_s (y:TkS) (b:UInt8):(tsStep y b).s=step y.s b:=by
 unfold tsStep
 (repeat' split)<;>rfl
structure SimT (x:TkI) (y:TkS):Prop where
 ok:TkOk x
 s:x.s=y.s
 out:x.out=y.out
 b0:x.s.mode=0∨10≤x.s.mode→x.raw=y.buf
 b1:(1≤x.s.mode∧x.s.mode≤5)∨x.s.mode=9→y.buf=[]
 p1:x.s.mode=1→y.ps=[]
 p2:x.s.mode=2∨x.s.mode=3→y.ps=unPs x.ps
 p4:4≤x.s.mode∧x.s.mode≤8→ ∃ l,x.ps=l++[(x.s.attr,y.buf)]∧y.ps=unPs l
 lo:y.out.length≤60
 lp:y.ps.length≤60
theorem sim_start:SimT tkI0 ⟨st0,[],[],[]⟩:=⟨tkI0_ok,rfl,rfl,fun _=>rfl,fun _=>rfl,fun _=>rfl,fun _=>rfl,fun h=>by simp [tkI0,st0] at h,by simp,by simp⟩
theorem bigS_f {y:TkS} (h: ¬ bigS y=true):y.out.length≤60∧y.ps.length≤60:=by
 unfold bigS at h
 simp at h
 omega
theorem bigS_t {y:TkS} (h:bigS y=true):60<y.out.length∨60<y.ps.length:=by
 unfold bigS at h
 simpa using h
/-- What is seen behind a byte. -/
theorem step_seen {s n:St} {b:UInt8} (h:stV s=true) (e:step s b=n):n.seen=if n.mode=6∨n.mode=7 then decide (s.mode=n.mode) else decide (n.mode=8):=by
 subst e
 have hv:=stV_step s b
 split
 · rename_i hm
   rw [step_val h] at hm ⊢
   rcases modes h with m|m|m|m|m|m|m|m|m|m|m|m|m
   · rw [stepV_0 m] at hm ⊢;split at hm<;>simp [st0] at hm
   · rw [stepV_1 m] at hm ⊢;(repeat' split at hm)<;>simp [bad] at hm
   · rw [stepV_t m] at hm ⊢
     unfold stepTagM longT longA at hm ⊢
     rcases m with m|m|m|m<;>(repeat' split at hm)<;>simp_all [st0,bad]
   · rw [stepV_5 m] at hm ⊢;(repeat' split at hm)<;>simp_all [bad]
   · rw [stepV_6 m] at hm ⊢;(repeat' split at hm)<;>simp_all
   · rw [stepV_7 m] at hm ⊢;(repeat' split at hm)<;>simp_all
   · rw [stepV_9 m] at hm ⊢
     unfold longT at hm ⊢
     (repeat' split at hm)<;>simp_all [bad,st0]
   · rw [stepV_10 m] at hm ⊢;(repeat' split at hm)<;>simp_all [bad,st0]
   · rw [stepV_11 m] at hm ⊢;(repeat' split at hm)<;>simp_all
   · rw [stepV_12 m] at hm ⊢;(repeat' split at hm)<;>simp_all [bad]
   · rw [stepV_13 m] at hm ⊢;(repeat' split at hm)<;>simp_all [bad]
   · rw [stepV_14 m] at hm ⊢;(repeat' split at hm)<;>simp_all
   · rw [stepV_15 m] at hm ⊢;simp [bad] at hm
 · rename_i hm
   by_cases h8:(step s b).mode=8
   · rw [stV_seen8 hv h8,h8];rfl
   · rw [stV_seen0 hv (by omega),decide_eq_false h8]
theorem tkStep_go {x:TkI} {b:UInt8} (n15:(step x.s b).mode≠15) (hcl: ¬ ((2≤x.s.mode∧x.s.mode≤8)∧((step x.s b).mode=0∨(step x.s b).mode=11))):tkStep x b=some ⟨step x.s b,(rawI x (step x.s b) b).1,prsI x (step x.s b) b,(rawI x (step x.s b) b).2⟩:=by
 unfold tkStep
 rw [if_neg n15,if_neg hcl]
theorem tkStep_end {x:TkI} {b:UInt8} (n15:(step x.s b).mode≠15) (hcl:(2≤x.s.mode∧x.s.mode≤8)∧((step x.s b).mode=0∨(step x.s b).mode=11)):tkStep x b=if 60<x.ps.length then none else some ⟨step x.s b,x.raw,[],x.out++[tkOpen x.s.tag (unPs x.ps)]⟩:=by
 unfold tkStep
 rw [if_neg n15,if_pos hcl]
theorem tsStep_end {y:TkS} {b:UInt8} (hcl:(2≤y.s.mode∧y.s.mode≤8)∧((step y.s b).mode=0∨(step y.s b).mode=11)):tsStep y b=⟨step y.s b,[],closeS y,y.out++[tkOpen y.s.tag (closeS y)]⟩:=by
 unfold tsStep
 rw [if_neg (by omega),if_neg (by omega),if_neg (by omega),if_pos hcl]
theorem close_eq {x:TkI} {y:TkS} (h:SimT x y) (hm:2≤x.s.mode∧x.s.mode≤8):closeS y=unPs x.ps:=by
 unfold closeS
 rw [← h.s]
 split
 · rename_i h48
   obtain ⟨l,e1,e2⟩:=h.p4 h48
   rw [e1,e2,unPs_append,unPs_one]
 · exact h.p2 (by omega)
set_option maxHeartbeats 4000000 in
/-- One byte. -/
theorem sim_step {x:TkI} {y:TkS} {b:UInt8} (h:SimT x y) (n15:(step x.s b).mode≠15) :
 (∃ x',tkStep x b=some x'∧x'.out=(tsStep y b).out∧(60<(tsStep y b).ps.length→2≤x'.s.mode∧x'.s.mode≤8∧60<x'.ps.length)∧(¬ bigS (tsStep y b)=true→SimT x' (tsStep y b)))∨(tkStep x b=none∧bigS (tsStep y b)=true):=by
 by_cases hcl:(2≤x.s.mode∧x.s.mode≤8)∧((step x.s b).mode=0∨(step x.s b).mode=11)
 · have hraw:x.raw=[]:=Classical.byContradiction fun h8=>by have:=h.ok.raw h8;omega
   have e1:=tkStep_end n15 hcl
   have e2:=tsStep_end (y:=y) (b:=b) (by rw [← h.s];exact hcl)
   rw [close_eq h hcl.1] at e2
   rw [e1,e2]
   by_cases hbig:60<x.ps.length
   · right
     rw [if_pos hbig]
     exact ⟨rfl,by simp [bigS,unPs_len,hbig]⟩
   · left
     rw [if_neg hbig] at *
     refine ⟨_,rfl,by rw [h.out,h.s],fun h9=>?_,fun hnb=>?_⟩
     · dsimp only at h9;rw [unPs_len] at h9;omega
     · obtain ⟨g1,g2⟩:=bigS_f hnb
       have hok':=tk_ok h.ok e1
       refine ⟨hok',by rw [h.s],by rw [h.out,h.s],fun _=>hraw,fun _=>rfl,fun h9=>?_,fun h9=>?_,fun h9=>?_,g1,g2⟩<;>(dsimp only at h9;omega)
 · left
   have e1:=tkStep_go n15 hcl
   refine ⟨_,e1,?_⟩
   have hok':=tk_ok h.ok e1
   clear e1
   obtain ⟨hok,hs,ho,hb0,hb1,hp1,hp2,hp4,hlo,hlp⟩:=h
   have hm:=(step_modes hok.v b).resolve_left n15
   have hraw:=hok.raw
   obtain ⟨xs,raw,ps,out⟩:=x
   obtain ⟨ys,buf,qs,out'⟩:=y
   dsimp only at *
   subst hs ho
   have hraw0:(1≤xs.mode∧xs.mode≤9)→raw=[]:=fun h9=>Classical.byContradiction fun h8=>by have:=hraw h8;omega
   generalize hn:step xs b=n at *
   by_cases h48:4≤xs.mode∧xs.mode≤8
   · obtain ⟨l,rfl,rfl⟩:=hp4 h48
     have hr:=hraw0 (by omega)
     subst hr
     have hsn:=step_seen hok.v hn
     rcases hm with ⟨m,_⟩|⟨m,_⟩|⟨m,_⟩|⟨m,_⟩|⟨m,m'|m'|⟨m',ha⟩|m'|m'⟩|⟨m,m'|m'|m',ha⟩|⟨m,m'|⟨m',ha⟩⟩|⟨m,m'|⟨m',ha⟩⟩|⟨m,m'|⟨m',ha⟩|m'|m'⟩|⟨m,_⟩|⟨m,_⟩|⟨m,_⟩|⟨m,_⟩|⟨m,_⟩|⟨m,_⟩
     all_goals first
      | (exfalso;omega)
      | (refine ⟨by simp [rawI,tsStep,closeS,hn,m,m',hsn],by simp [rawI,prsI,tsStep,closeS,hn,m,m',hsn,lastP_snoc,unPs_len];try omega,fun hnb=>?_⟩
         obtain ⟨g1,g2⟩:=bigS_f hnb
         refine ⟨hok',?_,?_,?_,?_,?_,?_,?_,g1,g2⟩<;>(simp [rawI,prsI,tsStep,closeS,hn,m,m',hsn,lastP_snoc,unPs_append,unPs_one, *];done))
   · by_cases h23:xs.mode=2∨xs.mode=3
     · have hr:=hraw0 (by omega)
       subst hr
       have hb:=hb1 (by omega)
       have hp:=hp2 h23
       subst hb hp
       have hsn:=step_seen hok.v hn
       rcases hm with ⟨m,_⟩|⟨m,_⟩|⟨m,m'|m'|m'|m'⟩|⟨m,m'|m'|m'|m'⟩|⟨m,_⟩|⟨m,_⟩|⟨m,_⟩|⟨m,_⟩|⟨m,_⟩|⟨m,_⟩|⟨m,_⟩|⟨m,_⟩|⟨m,_⟩|⟨m,_⟩|⟨m,_⟩
       all_goals first
        | (exfalso;omega)
        | (refine ⟨by simp [rawI,tsStep,closeS,hn,m,m',hsn],by simp [rawI,prsI,tsStep,closeS,hn,m,m',hsn,unPs_len];try omega,fun hnb=>?_⟩
           obtain ⟨g1,g2⟩:=bigS_f hnb
           refine ⟨hok',?_,?_,?_,?_,?_,?_,?_,g1,g2⟩<;>(simp [rawI,prsI,tsStep,closeS,hn,m,m',hsn, *];done))
        | skip
     · have hz:=hok.z
       dsimp only at hz
       have hz:=hz (by omega)
       subst hz
       have hsn:=step_seen hok.v hn
       have hl14:=hok.less
       dsimp only at hl14
       by_cases hm1:xs.mode=1∨xs.mode=9
       · have hr:=hraw0 (by omega)
         subst hr
         have hb:=hb1 (by omega)
         subst hb
         rcases hm with ⟨m,_⟩|⟨m,m'|m'|m'⟩|⟨m,_⟩|⟨m,_⟩|⟨m,_⟩|⟨m,_⟩|⟨m,_⟩|⟨m,_⟩|⟨m,_⟩|⟨m,m'|m'⟩|⟨m,_⟩|⟨m,_⟩|⟨m,_⟩|⟨m,_⟩|⟨m,_⟩
         all_goals first
          | (exfalso;omega)
          | (refine ⟨by simp [rawI,tsStep,closeS,hn,m,m',hsn],by simp [rawI,prsI,tsStep,closeS,hn,m,m',hsn,unPs_len];try omega,fun hnb=>?_⟩
             obtain ⟨g1,g2⟩:=bigS_f hnb
             refine ⟨hok',?_,?_,?_,?_,?_,?_,?_,g1,g2⟩<;>(simp [rawI,prsI,tsStep,closeS,hn,m,m',hsn,unPs_nil, *];done))
          | skip
       · have hb:=hb0 (by omega)
         subst hb
         have hlen:raw≠[]→(1<raw.length↔raw.dropLast≠[]):=fun hne=>by
          cases raw with
          | nil=>exact absurd rfl hne
          | cons a r=>cases r<;>simp
         rcases hm with ⟨m,m'|m'⟩|⟨m,_⟩|⟨m,_⟩|⟨m,_⟩|⟨m,_⟩|⟨m,_⟩|⟨m,_⟩|⟨m,_⟩|⟨m,_⟩|⟨m,_⟩|⟨m,m'|m'⟩|⟨m,m'|m'|m'⟩|⟨m,m'|m'|m'⟩|⟨m,m'⟩|⟨m,m'|m'|m'|m'⟩
         all_goals first
          | (exfalso;omega)
          | (refine ⟨by simp [rawI,tsStep,closeS,hn,m,m',hsn,put_text,put_scr]<;>(try (have h9:=hlen (hl14 m);split<;>split<;>simp_all)),by simp [rawI,prsI,tsStep,closeS,hn,m,m',hsn,unPs_len];try omega,fun hnb=>?_⟩
             obtain ⟨g1,g2⟩:=bigS_f hnb
             refine ⟨hok',?_,?_,?_,?_,?_,?_,?_,g1,g2⟩<;>(simp [rawI,prsI,tsStep,closeS,hn,m,m',hsn,unPs_nil,put_text,put_scr, *]<;>(try (have h9:=hlen (hl14 m);split<;>split<;>simp_all));done))
          | skip
/-- The program reads as the reference does. -/
theorem sim_fold: ∀ (t:Bs) (x:TkI) (y:TkS),SimT x y→(tkFold x t).bind tkFin=(tsFold y t).bind tsFin
 | [],x,y,h=>by
   show tkFin x=tsFin y
   unfold tkFin tsFin
   rw [put_text,← h.s,← h.out]
   by_cases h0:x.s.mode=0
   · have hb:=h.b0 (.inl h0)
     rw [hb]
     generalize (if y.buf=[] then x.out else x.out++[tkText (unT y.buf)])=Z
     by_cases hl:Z.length > 60
     · rw [if_neg (fun h9=>h9 h0),if_pos hl,if_pos (.inr hl)]
     · rw [if_neg (fun h9=>h9 h0),if_neg hl,if_neg (fun h9=>h9.elim (fun h8=>h8 h0) hl)]
   · rw [if_pos h0,if_pos (.inl h0)]
 | b::t,x,y,h=>by
   rw [tkFold_cons,tsFold]
   by_cases n15:(step x.s b).mode=15
   · have e:tkStep x b=none:=by unfold tkStep;rw [if_pos n15]
     rw [e]
     split
     · rfl
     · exact (dead_s15 t _ (by rw [tsStep_s,← h.s];exact n15)).symm
   · rcases sim_step h n15 with ⟨x',e,ho,hp,hs⟩|⟨e,hb⟩
     · rw [e]
       by_cases hb:bigS (tsStep y b)=true
       · rw [if_pos hb]
         show (tkFold x' t).bind tkFin=none
         rcases bigS_t hb with h9|h9
         · exact dead_out t x' (by rw [ho];exact h9)
         · obtain ⟨q1,q2,q3⟩:=hp h9
           exact dead_ps t x' (tk_ok h.ok e) q3 ⟨q1,q2⟩
       · rw [if_neg hb]
         exact sim_fold t x' _ (hs hb)
     · rw [e,if_pos hb];rfl
theorem tokM_eq (t:Bs):tsM t=tokM t:=by
 unfold tsM tokM
 split
 · have:=sim_fold t tkI0 ⟨st0,[],[],[]⟩ sim_start
   rw [this]
 · cases tsFold ⟨st0,[],[],[]⟩ t<;>rfl
end Go.Proofs.Ytnbjogilidfkdaa

/- Trusted markup: balanced tokens, tags that are closed, cleaned tokens. Plain. -/
namespace Go.Proofs.Ytnbjogilidfkdaa
set_option maxRecDepth 100000
set_option linter.unusedVariables false
set_option linter.unusedSimpArgs false
open Go.RowKit
def tagN (n:Bs):Bool:=decide (n=[98]) || decide (n=[105]) || decide (n=[112]) || decide (n=[97]) || decide (n=[117,108]) || decide (n=[108,105]) || decide (n=[98,114]) || decide (n=[105,109,103])
def voidN (n:Bs):Bool:=decide (n=[98,114]) || decide (n=[105,109,103]) || decide (n=[104,114])
def prN (t:Bs) (p:Bs×Bs):Bool:=if p.1=[116,105,116,108,101] then true else if p.1=[104,114,101,102]∧t=[97]∨p.1=[115,114,99]∧t=[105,109,103] then safeB p.2 else false
def balF:List Bs→List TokD→Bool
 | [],[]=>true
 | _::_,[]=>false
 | [],t::r=>if t.kind=3 then false else if t.kind=2∧voidN t.name=false then balF [t.name] r else balF [] r
 | n::st,t::r=>if t.kind=3 then decide (n=t.name) && balF st r else if t.kind=2∧voidN t.name=false then balF (t.name::n::st) r else balF (n::st) r
def closeF:List Bs→List TokD→List TokD
 | st,[]=>st.map tkEnd
 | [],t::r=>if t.kind=3 then closeF [] r else if t.kind=2∧voidN t.name=false then t::closeF [t.name] r else t::closeF [] r
 | n::st,t::r=>if t.kind=3 then (if n=t.name then t::closeF st r else closeF (n::st) r) else if t.kind=2∧voidN t.name=false then t::closeF (t.name::n::st) r else t::closeF (n::st) r
theorem bal_3 {st:List Bs} {t:TokD} {r:List TokD} (h:t.kind=3):balF st (t::r)=match st with|[]=>false|n::q=>decide (n=t.name) && balF q r:=by
 cases st<;>simp [balF,h]
theorem bal_2 {st:List Bs} {t:TokD} {r:List TokD} (h:t.kind=2) (hv:voidN t.name=false):balF st (t::r)=balF (t.name::st) r:=by
 cases st<;>simp [balF,h,hv]
theorem bal_o {st:List Bs} {t:TokD} {r:List TokD} (h:t.kind≠3) (h2: ¬ (t.kind=2∧voidN t.name=false)):balF st (t::r)=balF st r:=by
 cases st<;>simp only [balF,if_neg h,if_neg h2]
theorem close_3 {st:List Bs} {t:TokD} {r:List TokD} (h:t.kind=3):closeF st (t::r)=match st with|[]=>closeF [] r|n::q=>if n=t.name then t::closeF q r else closeF (n::q) r:=by
 cases st<;>simp [closeF,h]
theorem close_2 {st:List Bs} {t:TokD} {r:List TokD} (h:t.kind=2) (hv:voidN t.name=false):closeF st (t::r)=t::closeF (t.name::st) r:=by
 cases st<;>simp [closeF,h,hv]
theorem close_o {st:List Bs} {t:TokD} {r:List TokD} (h:t.kind≠3) (h2: ¬ (t.kind=2∧voidN t.name=false)):closeF st (t::r)=t::closeF st r:=by
 cases st<;>simp only [closeF,if_neg h,if_neg h2]
theorem close_nil (st:List Bs):closeF st []=st.map tkEnd:=by cases st<;>rfl
theorem bal_ends: ∀ st:List Bs,balF st (st.map tkEnd)=true
 | []=>rfl
 | n::st=>by
   rw [List.map_cons,bal_3 rfl]
   simp [tkEnd,bal_ends st]
theorem bal_close: ∀ (l:List TokD) (st:List Bs),balF st (closeF st l)=true
 | [],st=>by rw [close_nil];exact bal_ends st
 | t::r,st=>by
   by_cases h3:t.kind=3
   · rw [close_3 h3]
     cases st with
     | nil=>exact bal_close r []
     | cons n q =>
       dsimp only
       split
       · rename_i hn
         rw [bal_3 h3]
         simp [hn,bal_close r q]
       · exact bal_close r (n::q)
   · by_cases h2:t.kind=2∧voidN t.name=false
     · rw [close_2 h2.1 h2.2,bal_2 h2.1 h2.2]
       exact bal_close r _
     · rw [close_o h3 h2,bal_o h3 h2]
       exact bal_close r st
theorem close_id: ∀ (l:List TokD) (st:List Bs),balF st l=true→closeF st l=l
 | [],[],_=>rfl
 | [],_::_,h=>by simp [balF] at h
 | t::r,st,h=>by
   by_cases h3:t.kind=3
   · rw [bal_3 h3] at h
     rw [close_3 h3]
     cases st with
     | nil=>simp at h
     | cons n q =>
       dsimp only at h ⊢
       simp only [Bool.and_eq_true,decide_eq_true_eq] at h
       rw [if_pos h.1,close_id r q h.2]
   · by_cases h2:t.kind=2∧voidN t.name=false
     · rw [bal_2 h2.1 h2.2] at h
       rw [close_2 h2.1 h2.2,close_id r _ h]
     · rw [bal_o h3 h2] at h
       rw [close_o h3 h2,close_id r st h]
def dropN (t:TokD):Bool:=decide (t.kind=4) || decide (t.kind=5) || (decide (t.kind≠1) && !tagN t.name)
def keepT (t:TokD):TokD:={ t with pairs:=t.pairs.filter (prN t.name) }
def keepMk (l:List TokD):List TokD:=(l.filter fun t=>!dropN t).map keepT
/-- A token that may stay. -/
def goodT (t:TokD):Prop:=(t.kind=1∨t.kind=2∨t.kind=3)∧(t.kind≠1→tagN t.name=true)∧ ∀ p ∈ t.pairs,prN t.name p=true
/-- A token that a text is divided into. -/
def wfT (t:TokD):Prop:=(t.kind=1∨t.kind=2∨t.kind=3∨t.kind=4∨t.kind=5)∧(t.kind≠2→t.pairs=[])
theorem keep_good {l:List TokD} (h: ∀ t ∈ l,wfT t): ∀ t ∈ keepMk l,goodT t:=by
 intro t ht
 obtain ⟨u,hu,rfl⟩:=List.mem_map.1 ht
 obtain ⟨h1,h2⟩:=List.mem_filter.1 hu
 have hw:=h u h1
 unfold dropN at h2
 simp only [Bool.not_eq_true',Bool.or_eq_false_iff,Bool.and_eq_false_iff,decide_eq_false_iff_not,Bool.not_eq_false'] at h2
 have hw1:=hw.1
 refine ⟨show u.kind=1∨u.kind=2∨u.kind=3 by omega,fun h9=>?_,fun p hp=>(List.mem_filter.1 hp).2⟩
 have h9:u.kind≠1:=h9
 rcases h2.2 with h3|h3
 · exact absurd h9 h3
 · exact h3
theorem keep_id: ∀ {l:List TokD},(∀ t ∈ l,goodT t)→keepMk l=l
 | [],_=>rfl
 | t::r,h=>by
   have ht:=h t List.mem_cons_self
   have ih:=keep_id (l:=r) (fun u hu=>h u (List.mem_cons_of_mem _ hu))
   have hd:dropN t=false:=by
    obtain ⟨h1,h2,_⟩:=ht
    unfold dropN
    rcases h1 with e|e|e
    · simp [e]
    · have:=h2 (by omega);simp [e,this]
    · have:=h2 (by omega);simp [e,this]
   have hk:keepT t=t:=by
    unfold keepT
    have:t.pairs.filter (prN t.name)=t.pairs:=List.filter_eq_self.2 ht.2.2
    rw [this]
   unfold keepMk at *
   rw [List.filter_cons,hd]
   simp only [Bool.not_false,if_true,List.map_cons,hk,ih]
theorem close_good: ∀ (l:List TokD) (st:List Bs),(∀ t ∈ l,goodT t)→(∀ n ∈ st,tagN n=true)→ ∀ t ∈ closeF st l,goodT t
 | [],st,_,hs=>by
   rw [close_nil]
   intro t ht
   obtain ⟨n,hn,rfl⟩:=List.mem_map.1 ht
   exact ⟨.inr (.inr rfl),fun _=>hs n hn,fun p hp=>by cases hp⟩
 | t::r,st,h,hs=>by
   have ht:=h t List.mem_cons_self
   have hr: ∀ u ∈ r,goodT u:=fun u hu=>h u (List.mem_cons_of_mem _ hu)
   by_cases h3:t.kind=3
   · rw [close_3 h3]
     cases st with
     | nil=>exact close_good r [] hr hs
     | cons n q =>
       dsimp only
       split
       · intro u hu
         rcases List.mem_cons.1 hu with rfl|hu
         · exact ht
         · exact close_good r q hr (fun m hm=>hs m (List.mem_cons_of_mem _ hm)) u hu
       · exact close_good r (n::q) hr hs
   · by_cases h2:t.kind=2∧voidN t.name=false
     · rw [close_2 h2.1 h2.2]
       intro u hu
       rcases List.mem_cons.1 hu with rfl|hu
       · exact ht
       · refine close_good r _ hr (fun m hm=>?_) u hu
         rcases List.mem_cons.1 hm with rfl|hm
         · exact ht.2.1 (by omega)
         · exact hs m hm
     · rw [close_o h3 h2]
       intro u hu
       rcases List.mem_cons.1 hu with rfl|hu
       · exact ht
       · exact close_good r st hr hs u hu
/-- One more token behind others. -/
def addT:List TokD→TokD→List TokD
 | [],t=>[t]
 | [u],t=>if t.kind=1∧u.kind=1 then [{ u with value:=u.value++t.value }] else [u,t]
 | u::v::r,t=>u::addT (v::r) t
def joinM (l:List TokD):List TokD:=l.foldl addT []
theorem addT_snoc: ∀ (l:List TokD) (u t:TokD),addT (l++[u]) t=if t.kind=1∧u.kind=1 then l++[{ u with value:=u.value++t.value }] else l++[u,t]
 | [],u,t=>by simp only [List.nil_append];rw [addT]
 | [v],u,t=>by
   show v::addT ([]++[u]) t=_
   rw [addT_snoc []]
   split<;>rfl
 | v::w::r,u,t=>by
   show v::addT ((w::r)++[u]) t=_
   rw [addT_snoc (w::r)]
   split<;>rfl
theorem addT_nil (t:TokD):addT [] t=[t]:=rfl
/-- No two texts stand one behind the other. -/
def noAdj:List TokD→Bool
 | t::u::r=>!(decide (t.kind=1) && decide (u.kind=1)) && noAdj (u::r)
 | _=>true
theorem noAdj_cons (t u:TokD) (r:List TokD):noAdj (t::u::r)=(!(decide (t.kind=1) && decide (u.kind=1)) && noAdj (u::r)):=rfl
theorem noAdj_snoc: ∀ (l:List TokD) (u t:TokD),noAdj (l++[u,t])=(noAdj (l++[u]) && !(decide (u.kind=1) && decide (t.kind=1)))
 | [],u,t=>by simp [noAdj]
 | [v],u,t=>by simp [noAdj]
 | v::w::r,u,t=>by
   have:=noAdj_snoc (w::r) u t
   simp only [List.cons_append] at this ⊢
   rw [noAdj_cons,noAdj_cons,this,Bool.and_assoc]
theorem noAdj_kind: ∀ (l:List TokD) (u u':TokD),u.kind=u'.kind→noAdj (l++[u])=noAdj (l++[u'])
 | [],u,u',h=>by simp [noAdj]
 | [v],u,u',h=>by simp [noAdj,h]
 | v::w::r,u,u',h=>by
   have:=noAdj_kind (w::r) u u' h
   simp only [List.cons_append] at this ⊢
   rw [noAdj_cons,noAdj_cons,this]
theorem snoc_cases {α:Type} (l:List α):l=[]∨ ∃ q x,l=q++[x]:=by
 rcases List.eq_nil_or_concat l with h|⟨q,x,h⟩
 · exact .inl h
 · exact .inr ⟨q,x,by rw [h,List.concat_eq_append]⟩
theorem noAdj_add {l:List TokD} {t:TokD} (h:noAdj l=true):noAdj (addT l t)=true:=by
 rcases snoc_cases l with rfl|⟨q,u,rfl⟩
 · rfl
 · rw [addT_snoc]
   split
   · rw [noAdj_kind q { u with value:=u.value++t.value } u rfl];exact h
   · rename_i hn
     rw [noAdj_snoc,h]
     simp only [Bool.true_and,Bool.not_eq_true',Bool.and_eq_false_iff,decide_eq_false_iff_not]
     by_cases h1:t.kind=1
     · exact .inl fun h2=>hn ⟨h1,h2⟩
     · exact .inr h1
theorem noAdj_join (l:List TokD):noAdj (joinM l)=true:=by
 have: ∀ (l q:List TokD),noAdj q=true→noAdj (l.foldl addT q)=true:=by
  intro l
  induction l with
  | nil=>intro q h;exact h
  | cons t r ih=>intro q h;exact ih _ (noAdj_add h)
 exact this l [] rfl
theorem join_id {l:List TokD} (h:noAdj l=true):joinM l=l:=by
 have key: ∀ (l q:List TokD),noAdj (q++l)=true→l.foldl addT q=q++l:=by
  intro l
  induction l with
  | nil=>intro q _;simp
  | cons t r ih =>
    intro q h
    have hq:addT q t=q++[t]:=by
     rcases snoc_cases q with rfl|⟨p,u,rfl⟩
     · rfl
     · rw [addT_snoc,if_neg,List.append_assoc];rfl
       rintro ⟨h1,h2⟩
       have e:(p++[u])++t::r=p++(u::t::r):=by simp
       rw [e] at h
       have hsuf: ∀ (p:List TokD),noAdj (p++(u::t::r))=true→noAdj (u::t::r)=true:=by
        intro p
        induction p with
        | nil=>intro h;exact h
        | cons v s ihs =>
          intro h
          refine ihs ?_
          cases s with
          | nil=>rw [List.cons_append,List.nil_append,noAdj_cons,Bool.and_eq_true] at h;exact h.2
          | cons w s=>rw [List.cons_append,List.cons_append,noAdj_cons,Bool.and_eq_true] at h;exact h.2
       have:=hsuf p h
       rw [noAdj_cons] at this
       simp [h1,h2] at this
    rw [List.foldl_cons,hq,ih (q++[t]) (by rw [List.append_assoc];exact h),List.append_assoc];rfl
 exact key l [] h
theorem add_good {l:List TokD} {t:TokD} (h: ∀ u ∈ l,goodT u) (ht:goodT t): ∀ u ∈ addT l t,goodT u:=by
 rcases snoc_cases l with rfl|⟨q,v,rfl⟩
 · intro u hu
   obtain rfl:u=t:=by simpa [addT_nil] using hu
   exact ht
 · rw [addT_snoc]
   split
   · intro u hu
     rcases List.mem_append.1 hu with hu|hu
     · exact h u (List.mem_append_left _ hu)
     · obtain rfl:u=_:=by simpa using hu
       exact h v (by simp)
   · intro u hu
     rcases List.mem_append.1 hu with hu|hu
     · exact h u (List.mem_append_left _ hu)
     · rcases List.mem_cons.1 hu with rfl|hu
       · exact h u (by simp)
       · obtain rfl:u=t:=by simpa using hu
         exact ht
theorem join_good {l:List TokD} (h: ∀ u ∈ l,goodT u): ∀ u ∈ joinM l,goodT u:=by
 have key: ∀ (l q:List TokD),(∀ u ∈ l,goodT u)→(∀ u ∈ q,goodT u)→ ∀ u ∈ l.foldl addT q,goodT u:=by
  intro l
  induction l with
  | nil=>intro q _ h;exact h
  | cons t r ih =>
    intro q hl hq
    exact ih _ (fun u hu=>hl u (List.mem_cons_of_mem _ hu)) (add_good hq (hl t List.mem_cons_self))
 exact key l [] h (fun u hu=>by cases hu)
/-- Texts say nothing of balance. -/
theorem bal_app: ∀ (l r r':List TokD) (st:List Bs),(∀ st,balF st r=balF st r')→balF st (l++r)=balF st (l++r')
 | [],r,r',st,h=>h st
 | t::l,r,r',st,h=>by
   rw [List.cons_append,List.cons_append]
   by_cases h3:t.kind=3
   · rw [bal_3 h3,bal_3 h3]
     cases st with
     | nil=>rfl
     | cons n q=>dsimp only;rw [bal_app l r r' q h]
   · by_cases h2:t.kind=2∧voidN t.name=false
     · rw [bal_2 h2.1 h2.2,bal_2 h2.1 h2.2,bal_app l r r' _ h]
     · rw [bal_o h3 h2,bal_o h3 h2,bal_app l r r' st h]
theorem bal_text {t:TokD} (h:t.kind=1) (r:List TokD) (st:List Bs):balF st (t::r)=balF st r:=bal_o (by omega) (by omega)
theorem bal_add (l:List TokD) (t:TokD) (r:List TokD) (st:List Bs):balF st (addT l t++r)=balF st (l++t::r):=by
 rcases snoc_cases l with rfl|⟨q,u,rfl⟩
 · rfl
 · rw [addT_snoc]
   split
   · rename_i hk
     rw [List.append_assoc,List.append_assoc]
     refine bal_app q _ _ st fun st=>?_
     rw [List.singleton_append,List.singleton_append]
     exact (bal_text (t:={ u with value:=u.value++t.value }) hk.2 r st).trans ((bal_text hk.2 _ st).trans (bal_text hk.1 r st)).symm
   · rw [List.append_assoc,List.append_assoc];rfl
theorem bal_join (l:List TokD) (st:List Bs):balF st (joinM l)=balF st l:=by
 have key: ∀ (l q:List TokD),balF st (l.foldl addT q)=balF st (q++l):=by
  intro l
  induction l with
  | nil=>intro q;simp
  | cons t r ih =>
    intro q
    rw [List.foldl_cons,ih,bal_add]
 exact key l []
def cleanMk (l:List TokD):List TokD:=joinM (closeF [] (keepMk l))
theorem clean_good {l:List TokD} (h: ∀ t ∈ l,wfT t): ∀ t ∈ cleanMk l,goodT t:=join_good (close_good _ [] (keep_good h) (fun n hn=>by cases hn))
theorem clean_bal (l:List TokD):balF [] (cleanMk l)=true:=by
 unfold cleanMk
 rw [bal_join]
 exact bal_close _ _
theorem clean_noAdj (l:List TokD):noAdj (cleanMk l)=true:=noAdj_join _
/-- What is clean stays as it is. -/
theorem clean_id {l:List TokD} (h1: ∀ t ∈ l,goodT t) (h2:balF [] l=true) (h3:noAdj l=true):cleanMk l=l:=by
 unfold cleanMk
 rw [keep_id h1,close_id l [] h2,join_id h3]
theorem clean_clean {l:List TokD} (h: ∀ t ∈ l,wfT t):cleanMk (cleanMk l)=cleanMk l:=clean_id (clean_good h) (clean_bal l) (clean_noAdj l)
def okTk (t:TokD):Bool:=if t.kind=2 then tagN t.name && t.pairs.all (prN t.name) else decide (t.kind=1) || decide (t.kind=3)
def mkSafe (l:List TokD):Bool:=balF [] l && l.all okTk
theorem good_ok {t:TokD} (h:goodT t):okTk t=true:=by
 obtain ⟨h1,h2,h3⟩:=h
 unfold okTk
 split
 · rw [h2 (by omega),Bool.true_and,List.all_eq_true]
   exact h3
 · rcases h1 with e|e|e
   · simp [e]
   · contradiction
   · simp [e]
theorem clean_safe {l:List TokD} (h: ∀ t ∈ l,wfT t):mkSafe (cleanMk l)=true:=by
 unfold mkSafe
 rw [clean_bal,Bool.true_and,List.all_eq_true]
 exact fun t ht=>good_ok (clean_good h t ht)
theorem safe_no {l:List TokD} (h:mkSafe l=true): ∀ t ∈ l,t.kind≠4∧t.kind≠5:=by
 unfold mkSafe at h
 rw [Bool.and_eq_true,List.all_eq_true] at h
 intro t ht
 have:=h.2 t ht
 unfold okTk at this
 split at this
 · omega
 · simp at this;omega
end Go.Proofs.Ytnbjogilidfkdaa

/- Data: places of fields. Plain. -/
namespace Go.Proofs.Ytnbjogilidfkdaa
set_option maxRecDepth 100000
set_option linter.unusedVariables false
set_option linter.unusedSimpArgs false
open Go.RowKit
theorem strs_length (l:List Bs):(strs l).length=l.length:=by unfold strs;simp
theorem strs_all (l:List Bs):(∀ e ∈ strs l,e.length=1)=True:=eq_true (by
 intro e he;unfold strs at he
 obtain ⟨f,_,rfl⟩:=List.mem_map.1 he;rfl)
/-- Lengths that are numbers. -/
def okF (l:List FieldD):Prop:=l.length≤9223372036854775807∧ ∀ f ∈ l,f.name.length≤9223372036854775807∧f.text.length≤9223372036854775807∧f.items.length≤9223372036854775807∧ ∀ t ∈ f.items,t.length≤9223372036854775807
end Go.Proofs.Ytnbjogilidfkdaa
