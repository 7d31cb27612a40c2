/- The machine of modes, as data: states, one step, many steps. No program. -/
import Derived.Test.YtnbjogilidfkdaaGreatVTY
import Derived.Test.YtnbjogilidfkdaaGreatVD1

namespace Go.Proofs.YtnbjogilidfkdaaGreat
set_option maxRecDepth 100000
set_option linter.unusedVariables false
set_option linter.unusedSimpArgs false
open Go.RowKit
structure St where
 mode:Int
 tag:Bs
 attr:Bs
 seen:Bool
 deriving DecidableEq
def encS (s:St):List PV:=[.int .i64 s.mode,.str s.tag,.str s.attr,.bool s.seen]
@[go_sem] theorem encS_mk (m:Int) (t a:Bs) (b:Bool):encS ⟨m,t,a,b⟩=[.int .i64 m,.str t,.str a,.bool b]:=rfl
@[go_sem] theorem encS_iff {s t:St}:encS s=encS t↔s=t:=by
 constructor
 · intro h
   cases s;cases t
   simp only [encS,List.cons.injEq,PV.int.injEq,PV.str.injEq,PV.bool.injEq,true_and,and_true] at h
   obtain ⟨rfl,rfl,rfl,rfl⟩:=h
   rfl
 · rintro rfl;rfl
def bad:St:=⟨15,[],[],false⟩
def st0:St:=⟨0,[],[],false⟩
/-- Lengths are lengths. -/
def okS (s:St):Prop:=s.tag.length≤9223372036854775807∧s.attr.length≤9223372036854775807
def tagOk (s:St):Bool:=if 2≤s.mode∧s.mode≤8 then nameB s.tag else if s.mode=9 then decide (s.tag=[]) || nameB s.tag else decide (s.tag=[])
def attrOk (s:St):Bool:=if 4≤s.mode∧s.mode≤8 then nameB s.attr else decide (s.attr=[])
def seenOk (s:St):Bool:=if s.mode=6∨s.mode=7 then true else if s.mode=8 then s.seen else !s.seen
def stV (s:St):Bool:=decide (0≤s.mode∧s.mode≤15) && tagOk s && attrOk s && seenOk s
def nmByte (b:UInt8):Bool:=isLet b || isDig b || decide (b.toNat=45)
def bareB (b:UInt8):Bool:=isLet b || isDig b || hasB [45,95,46,47,58] b
def script:Bs:=[115,99,114,105,112,116]
def longT (s:St) (b:UInt8):St:=if s.tag.length+1 > 10 then bad else ⟨s.mode,s.tag++[low1 b],s.attr,s.seen⟩
def longA (s:St) (b:UInt8):St:=if s.attr.length+1 > 10 then bad else ⟨s.mode,s.tag,s.attr++[low1 b],s.seen⟩
def stepTagM (s:St) (b:UInt8):St :=
 if b.toNat=62 then (if s.tag=script then ⟨11,[],[],false⟩ else st0)
 else if b.toNat=32 then ⟨3,s.tag,[],false⟩
 else if s.mode=2∧nmByte b=true then longT s b
 else if s.mode=3∧isLet b=true then longA ⟨4,s.tag,s.attr,s.seen⟩ b
 else if s.mode=4∧nmByte b=true then longA s b
 else if s.mode=4∧b.toNat=61 then ⟨5,s.tag,s.attr,s.seen⟩
 else if s.mode=8∧bareB b=true then s
 else bad
def stepV (s:St) (b:UInt8):St :=
 if s.mode=0 then (if b.toNat=60 then ⟨1,[],[],false⟩ else st0)
 else if s.mode=1 then (if isLet b=true then ⟨2,[low1 b],[],false⟩ else if b.toNat=47 then ⟨9,[],[],false⟩ else if b.toNat=33 then ⟨10,[],[],false⟩ else bad)
 else if s.mode=2∨s.mode=3∨s.mode=4∨s.mode=8 then stepTagM s b
 else if s.mode=5 then (if b.toNat=34 then ⟨6,s.tag,s.attr,false⟩ else if b.toNat=39 then ⟨7,s.tag,s.attr,false⟩ else if bareB b=true then ⟨8,s.tag,s.attr,true⟩ else bad)
 else if s.mode=6 then (if b.toNat=34 then ⟨3,s.tag,[],false⟩ else ⟨6,s.tag,s.attr,true⟩)
 else if s.mode=7 then (if b.toNat=39 then ⟨3,s.tag,[],false⟩ else ⟨7,s.tag,s.attr,true⟩)
 else if s.mode=9 then (if b.toNat=62∧s.tag≠[] then st0 else if isLet b=true∨s.tag≠[]∧(isDig b=true∨b.toNat=45) then longT s b else bad)
 else if s.mode=10 then (if b.toNat=62 then st0 else s)
 else if s.mode=11 then (if b.toNat=60 then ⟨14,[],[],false⟩ else if b.toNat=34 then ⟨12,[],[],false⟩ else ⟨11,[],[],false⟩)
 else if s.mode=14 then (if b.toNat=60 then ⟨14,[],[],false⟩ else if b.toNat=34 then ⟨12,[],[],false⟩ else if b.toNat=47 then ⟨9,[],[],false⟩ else ⟨11,[],[],false⟩)
 else if s.mode=12 then (if b.toNat=34 then ⟨11,[],[],false⟩ else if b.toNat=92 then ⟨13,[],[],false⟩ else if b.toNat=60 then bad else ⟨12,[],[],false⟩)
 else if s.mode=13 then (if b.toNat=60 then bad else ⟨12,[],[],false⟩)
 else bad
def step (s:St) (b:UInt8):St:=if stV s=true then stepV s b else bad
def run (s:St) (t:Bs):St:=t.foldl step s
def afterS (s:St) (t:Bs):St:=if stV s=true then run s t else bad
theorem run_cons (s:St) (b:UInt8) (t:Bs):run s (b::t)=run (step s b) t:=rfl
theorem run_append (s:St) (t u:Bs):run s (t++u)=run (run s t) u:=List.foldl_append
theorem run_snoc {s:St} {t:Bs} {k:Nat} (h:k<t.length):run s (t.take (k+1))=step (run s (t.take k)) (t.getD k 0):=by
 rw [take_succ_getD h,run_append];rfl
theorem stV_parts {s:St} (h:stV s=true):0≤s.mode∧s.mode≤15∧tagOk s=true∧attrOk s=true∧seenOk s=true:=by
 unfold stV at h
 simp only [Bool.and_eq_true,decide_eq_true_eq] at h
 exact ⟨h.1.1.1.1,h.1.1.1.2,h.1.1.2,h.1.2,h.2⟩
theorem stV_tag0 {s:St} (h:stV s=true) (hm:s.mode<2∨9<s.mode):s.tag=[]:=by
 have:=(stV_parts h).2.2.1
 unfold tagOk at this
 rw [if_neg (by omega),if_neg (by omega)] at this
 simpa using this
theorem stV_attr0 {s:St} (h:stV s=true) (hm:s.mode<4∨8<s.mode):s.attr=[]:=by
 have:=(stV_parts h).2.2.2.1
 unfold attrOk at this
 rw [if_neg (by omega)] at this
 simpa using this
theorem stV_seen0 {s:St} (h:stV s=true) (hm:s.mode<6∨8<s.mode):s.seen=false:=by
 have:=(stV_parts h).2.2.2.2
 unfold seenOk at this
 rw [if_neg (by omega),if_neg (by omega)] at this
 simpa using this
theorem stV_seen8 {s:St} (h:stV s=true) (hm:s.mode=8):s.seen=true:=by
 have:=(stV_parts h).2.2.2.2
 unfold seenOk at this
 rw [if_neg (by omega),if_pos hm] at this
 exact this
theorem stV_tagN {s:St} (h:stV s=true) (hm:2≤s.mode∧s.mode≤8):nameB s.tag=true:=by
 have:=(stV_parts h).2.2.1
 unfold tagOk at this
 rwa [if_pos hm] at this
theorem stV_attrN {s:St} (h:stV s=true) (hm:4≤s.mode∧s.mode≤8):nameB s.attr=true:=by
 have:=(stV_parts h).2.2.2.1
 unfold attrOk at this
 rwa [if_pos hm] at this
theorem stV_tag9 {s:St} (h:stV s=true) (hm:s.mode=9):s.tag=[]∨nameB s.tag=true:=by
 have:=(stV_parts h).2.2.1
 unfold tagOk at this
 rw [if_neg (by omega),if_pos hm] at this
 simpa using this
theorem nameB_len {s:Bs} (h:nameB s=true):1≤s.length∧s.length≤10:=by
 unfold nameB at h
 simp only [Bool.and_eq_true,decide_eq_true_eq] at h
 exact ⟨h.1.1,h.1.2.1⟩
theorem stV_tag_len {s:St} (h:stV s=true):s.tag.length≤10:=by
 by_cases h1:s.mode<2∨9<s.mode
 · rw [stV_tag0 h h1];exact Nat.zero_le _
 · by_cases h2:s.mode=9
   · rcases stV_tag9 h h2 with e|e
     · rw [e];exact Nat.zero_le _
     · exact (nameB_len e).2
   · exact (nameB_len (stV_tagN h (by omega))).2
theorem stV_attr_len {s:St} (h:stV s=true):s.attr.length≤10:=by
 by_cases h1:s.mode<4∨8<s.mode
 · rw [stV_attr0 h h1];exact Nat.zero_le _
 · exact (nameB_len (stV_attrN h (by omega))).2
theorem okS_of {s:St} (h:stV s=true):okS s:=⟨by have:=stV_tag_len h;omega,by have:=stV_attr_len h;omega⟩
theorem stV_bad:stV bad=true:=by decide
theorem stV_st0:stV st0=true:=by decide
theorem low1_let {b:UInt8} (h:isLet b=true):97≤(low1 b).toNat∧(low1 b).toNat≤122:=by
 rw [low1_nat]
 unfold isLet at h
 rw [decide_eq_true_eq] at h
 split<;>omega
theorem low1_nm {b:UInt8} (h:nmByte b=true):okNm (low1 b).toNat=true:=by
 unfold nmByte at h
 simp only [Bool.or_eq_true,decide_eq_true_eq] at h
 rcases h with (h|h)|h
 · have:=low1_let h
   exact okNm_t (by omega)
 · unfold isDig at h
   rw [decide_eq_true_eq] at h
   rw [low1_nat,if_neg (by omega)]
   exact okNm_t (by omega)
 · rw [low1_nat,if_neg (by omega)]
   exact okNm_t (by omega)
theorem nameB_one {c:UInt8} (h:97≤c.toNat∧c.toNat≤122):nameB [c]=true:=by
 have hc:okNm c.toNat=true:=okNm_t (by omega)
 simp [nameB,allB,h,hc]
theorem nameB_more {s:Bs} {c:UInt8} (h:nameB s=true) (hl:s.length+1≤10) (hc:okNm c.toNat=true):nameB (s++[c])=true:=by
 unfold nameB at *
 simp only [Bool.and_eq_true,decide_eq_true_eq] at h
 obtain ⟨⟨h1,h2,h3,h4⟩,h5⟩:=h
 have e:(s++[c]).getD 0 0=s.getD 0 0:=by
  cases s with
  | nil=>simp at h1
  | cons x r=>rfl
 simp only [Bool.and_eq_true,decide_eq_true_eq,e,List.length_append,List.length_singleton]
 refine ⟨⟨by omega,by omega,h3,h4⟩,?_⟩
 unfold allB at *
 rw [List.all_append,h5]
 simp [hc]
theorem stV_longT {s:St} {b:UInt8} (h:stV s=true) (hb:nmByte b=true) (hm:s.mode=2∨s.mode=9∧(isLet b=true∨s.tag≠[])):stV (longT s b)=true:=by
 unfold longT
 split
 · exact stV_bad
 · rename_i hl
   have hn:nameB (s.tag++[low1 b])=true:=by
    rcases hm with hm|⟨hm,h2⟩
    · exact nameB_more (stV_tagN h (by omega)) (by omega) (low1_nm hb)
    · rcases stV_tag9 h hm with e|e
      · rw [e]
        exact nameB_one (low1_let (h2.resolve_right (fun h=>h e)))
      · exact nameB_more e (by omega) (low1_nm hb)
   have ha:=stV_attr0 h (by omega)
   have hs:=stV_seen0 h (by omega)
   rcases hm with hm|⟨hm,_⟩<;>simp [stV,tagOk,attrOk,seenOk,hm,hn,ha,hs]
theorem let_nm {b:UInt8} (h:isLet b=true):nmByte b=true:=by simp [nmByte,h]
theorem stV_longA {s:St} {b:UInt8} (h:stV s=true) (hb:nmByte b=true) (hm:s.mode=3∧isLet b=true∨s.mode=4):stV (longA ⟨4,s.tag,s.attr,s.seen⟩ b)=true:=by
 unfold longA
 split
 · exact stV_bad
 · rename_i hl
   dsimp only at hl
   have hn:nameB (s.attr++[low1 b])=true:=by
    rcases hm with ⟨hm,h2⟩|hm
    · rw [stV_attr0 h (by omega)]
      exact nameB_one (low1_let h2)
    · exact nameB_more (stV_attrN h (by omega)) (by omega) (low1_nm hb)
   have ht:=stV_tagN h (by omega)
   have hs:=stV_seen0 h (by omega)
   simp [stV,tagOk,attrOk,seenOk,hn,ht,hs]
section
variable {s:St} {b:UInt8}
theorem stepV_0 (h:s.mode=0):stepV s b=if b.toNat=60 then ⟨1,[],[],false⟩ else st0:=by simp [stepV,h]
theorem stepV_1 (h:s.mode=1):stepV s b=if isLet b=true then ⟨2,[low1 b],[],false⟩ else if b.toNat=47 then ⟨9,[],[],false⟩ else if b.toNat=33 then ⟨10,[],[],false⟩ else bad:=by simp [stepV,h]
theorem stepV_t (h:s.mode=2∨s.mode=3∨s.mode=4∨s.mode=8):stepV s b=stepTagM s b:=by
 unfold stepV
 rw [if_neg (by omega),if_neg (by omega),if_pos h]
theorem stepV_5 (h:s.mode=5):stepV s b=if b.toNat=34 then ⟨6,s.tag,s.attr,false⟩ else if b.toNat=39 then ⟨7,s.tag,s.attr,false⟩ else if bareB b=true then ⟨8,s.tag,s.attr,true⟩ else bad:=by simp [stepV,h]
theorem stepV_6 (h:s.mode=6):stepV s b=if b.toNat=34 then ⟨3,s.tag,[],false⟩ else ⟨6,s.tag,s.attr,true⟩:=by simp [stepV,h]
theorem stepV_7 (h:s.mode=7):stepV s b=if b.toNat=39 then ⟨3,s.tag,[],false⟩ else ⟨7,s.tag,s.attr,true⟩:=by simp [stepV,h]
theorem stepV_9 (h:s.mode=9):stepV s b=if b.toNat=62∧s.tag≠[] then st0 else if isLet b=true∨s.tag≠[]∧(isDig b=true∨b.toNat=45) then longT s b else bad:=by simp [stepV,h]
theorem stepV_10 (h:s.mode=10):stepV s b=if b.toNat=62 then st0 else s:=by simp [stepV,h]
theorem stepV_11 (h:s.mode=11):stepV s b=if b.toNat=60 then ⟨14,[],[],false⟩ else if b.toNat=34 then ⟨12,[],[],false⟩ else ⟨11,[],[],false⟩:=by simp [stepV,h]
theorem stepV_14 (h:s.mode=14):stepV s b=if b.toNat=60 then ⟨14,[],[],false⟩ else if b.toNat=34 then ⟨12,[],[],false⟩ else if b.toNat=47 then ⟨9,[],[],false⟩ else ⟨11,[],[],false⟩:=by simp [stepV,h]
theorem stepV_12 (h:s.mode=12):stepV s b=if b.toNat=34 then ⟨11,[],[],false⟩ else if b.toNat=92 then ⟨13,[],[],false⟩ else if b.toNat=60 then bad else ⟨12,[],[],false⟩:=by simp [stepV,h]
theorem stepV_13 (h:s.mode=13):stepV s b=if b.toNat=60 then bad else ⟨12,[],[],false⟩:=by simp [stepV,h]
theorem stepV_15 (h:s.mode=15):stepV s b=bad:=by simp [stepV,h]
end
theorem modes {s:St} (h:stV s=true):s.mode=0∨s.mode=1∨(s.mode=2∨s.mode=3∨s.mode=4∨s.mode=8)∨s.mode=5∨s.mode=6∨s.mode=7∨s.mode=9∨s.mode=10∨s.mode=11∨s.mode=12∨s.mode=13∨s.mode=14∨s.mode=15:=by
 have:=stV_parts h
 omega
theorem stV_tagM {s:St} {b:UInt8} (h:stV s=true) (hm:s.mode=2∨s.mode=3∨s.mode=4∨s.mode=8):stV (stepTagM s b)=true:=by
 have ht:=stV_tagN h (by omega)
 unfold stepTagM
 split
 · split<;>decide
 split
 · simp [stV,tagOk,attrOk,seenOk,ht]
 split
 · rename_i h1
   exact stV_longT h h1.2 (.inl h1.1)
 split
 · rename_i h1
   exact stV_longA h (let_nm h1.2) (.inl h1)
 split
 · rename_i h1
   have e:s=⟨4,s.tag,s.attr,s.seen⟩:=by cases s;have:=h1.1;simp at this;simp [this]
   rw [e]
   exact stV_longA h h1.2 (.inr h1.1)
 split
 · rename_i h1
   simp [stV,tagOk,attrOk,seenOk,ht,stV_attrN h (by omega),stV_seen0 h (by omega)]
 split
 · exact h
 · exact stV_bad
theorem stV_step (s:St) (b:UInt8):stV (step s b)=true:=by
 unfold step
 split
 · rename_i h
   rcases modes h with m|m|m|m|m|m|m|m|m|m|m|m|m
   · rw [stepV_0 m];split<;>decide
   · rw [stepV_1 m]
     split
     · rename_i hq
       simp [stV,tagOk,attrOk,seenOk,nameB_one (low1_let hq)]
     · (repeat' split)<;>decide
   · rw [stepV_t m];exact stV_tagM h m
   · have ht:=stV_tagN h (by omega)
     have ha:=stV_attrN h (by omega)
     rw [stepV_5 m]
     (repeat' split)<;>first|exact stV_bad|simp [stV,tagOk,attrOk,seenOk,ht,ha]
   · have ht:=stV_tagN h (by omega)
     have ha:=stV_attrN h (by omega)
     rw [stepV_6 m]
     split<;>simp [stV,tagOk,attrOk,seenOk,ht,ha]
   · have ht:=stV_tagN h (by omega)
     have ha:=stV_attrN h (by omega)
     rw [stepV_7 m]
     split<;>simp [stV,tagOk,attrOk,seenOk,ht,ha]
   · rw [stepV_9 m]
     split
     · exact stV_st0
     split
     · rename_i hq
       refine stV_longT h ?_ (.inr ⟨m,?_⟩)
       · rcases hq with hq|⟨_,hq|hq⟩<;>simp [nmByte,hq]
       · rcases hq with hq|⟨hq,_⟩
         · exact .inl hq
         · exact .inr hq
     · exact stV_bad
   · rw [stepV_10 m];split
     · exact stV_st0
     · exact h
   · rw [stepV_11 m];(repeat' split)<;>decide
   · rw [stepV_12 m];(repeat' split)<;>decide
   · rw [stepV_13 m];(repeat' split)<;>decide
   · rw [stepV_14 m];(repeat' split)<;>decide
   · rw [stepV_15 m];decide
 · exact stV_bad
theorem stV_run {s:St} (h:stV s=true) (t:Bs):stV (run s t)=true:=by
 induction t generalizing s with
 | nil=>exact h
 | cons b r ih=>rw [run_cons];exact ih (stV_step s b)
theorem step_bad (b:UInt8):step bad b=bad:=rfl
theorem run_bad (t:Bs):run bad t=bad:=by
 induction t with
 | nil=>rfl
 | cons b r ih=>rw [run_cons,step_bad,ih]
theorem stV_afterS (s:St) (t:Bs):stV (afterS s t)=true:=by
 unfold afterS
 split
 · exact stV_run ‹_› t
 · exact stV_bad
def addrN (a:Bs):Bool:=decide (a=[104,114,101,102]) || decide (a=[115,114,99]) || decide (a=[97,99,116,105,111,110])
def styleN:Bs:=[115,116,121,108,101]
def placeM (s:St):Int :=
 if stV s=false then 0
 else if s.mode=0 then 1
 else if s.mode=12 then 5
 else if s.mode=6∨s.mode=7 then
  (if List.isPrefixOf [111,110] s.attr=true∨s.attr=styleN then 0 else if addrN s.attr=false then 2 else if s.seen=true then 4 else 3)
 else 0
def behindM (s:St):St:=if placeM s=0 then bad else if s.mode=6∨s.mode=7 then ⟨s.mode,s.tag,s.attr,true⟩ else s
theorem placeM_bd (s:St):0≤placeM s∧placeM s≤5:=by unfold placeM;(repeat' split)<;>decide
theorem placeM_stV {s:St} (h:placeM s≠0):stV s=true:=by
 unfold placeM at h
 split at h
 · exact absurd rfl h
 · rename_i hq;cases hv:stV s with
   | true=>rfl
   | false=>exact absurd hv hq
theorem stV_behind (s:St):stV (behindM s)=true:=by
 unfold behindM
 split
 · exact stV_bad
 · rename_i h
   have hv:=placeM_stV h
   split
   · rename_i hm
     simp only [stV,tagOk,attrOk,seenOk]
     have h1:=stV_tagN hv (by omega)
     have h2:=stV_attrN hv (by omega)
     rcases hm with e|e<;>simp [e,h1,h2]
   · exact hv
end Go.Proofs.YtnbjogilidfkdaaGreat
