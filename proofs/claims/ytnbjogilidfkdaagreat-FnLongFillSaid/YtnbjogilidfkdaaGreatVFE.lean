/- Escaped texts read back, as data. No program. -/
import Derived.Test.YtnbjogilidfkdaaGreatVFM
import Derived.Lib.Bytealg

namespace Go.Proofs.YtnbjogilidfkdaaGreat
set_option maxRecDepth 100000
set_option linter.unusedVariables false
set_option linter.unusedSimpArgs false
open Go.RowKit
abbrev ixB (l:Bs) (c:UInt8):Int:=Lib.indexByte l c
theorem byte_split (c:UInt8):c.toNat / 16<16∧c.toNat % 16<16:=by have:=c.toNat_lt;omega
theorem scrS_cons (c:UInt8) (o:Bs):scrS (c::o)=scr1 c++scrS o:=rfl
end Go.Proofs.YtnbjogilidfkdaaGreat

/- Escaped texts come back; what escaped texts do not hold. No program. -/
namespace Go.Proofs.YtnbjogilidfkdaaGreat
set_option maxRecDepth 100000
set_option linter.unusedVariables false
set_option linter.unusedSimpArgs false
open Go.RowKit
def noSp (b:UInt8):Bool:=!(decide (b.toNat=60) || decide (b.toNat=62) || decide (b.toNat=34) || decide (b.toNat=39))
theorem ent1_noSp: ∀ b:UInt8,(ent1 b).all noSp=true:=all_bytes (by decide)
theorem pct3_noSp: ∀ b:UInt8,(pctW keep3 b).all noSp=true:=all_bytes (by decide)
theorem scr1_noSp: ∀ b:UInt8,(scr1 b).all noSp=true:=all_bytes (by decide)
theorem flat_all {g:UInt8→Bs} {p:UInt8→Bool} (h: ∀ b,(g b).all p=true): ∀ s:Bs,(s.flatMap g).all p=true
 | []=>rfl
 | b::r=>by rw [List.flatMap_cons,List.all_append,h b,flat_all h r];rfl
theorem escT_noSp (s:Bs):(escT s).all noSp=true:=flat_all ent1_noSp s
theorem pctS_noSp (s:Bs):(pctS keep3 s).all noSp=true:=flat_all pct3_noSp s
theorem scrS_noSp (s:Bs):(scrS s).all noSp=true:=flat_all scr1_noSp s
end Go.Proofs.YtnbjogilidfkdaaGreat

/- Schemes of addresses, escapers of places, places that are kept: as data. No program. -/
namespace Go.Proofs.YtnbjogilidfkdaaGreat
set_option maxRecDepth 100000
set_option linter.unusedVariables false
set_option linter.unusedSimpArgs false
open Go.RowKit
def slq (b:UInt8):Bool:=decide (b.toNat=47) || decide (b.toNat=63)
def alnum (b:UInt8):Bool:=isLet b || isDig b
def http:Bs:=[104,116,116,112]
def https:Bs:=[104,116,116,112,115]
def mailto:Bs:=[109,97,105,108,116,111]
/-- The scheme, where p stands before the first colon. -/
def schP (p:Bs):Bs:=if p.any slq=true then [] else if p=[]∨p.all alnum=false then [63] else lowS p
def schB (s:Bs):Bs:=if ixB s 58<0 then [] else schP (s.take (ixB s 58).toNat)
def safeB (s:Bs):Bool:=decide (schB s=[]) || decide (schB s=http) || decide (schB s=https) || decide (schB s=mailto)
theorem ix_take {s:Bs} {c:UInt8} {k:Nat} (h:k<s.length) (h0: ∀ b ∈ s.take k,b≠c) (hk:s.getD k 0=c):ixB s c=k:=by
 induction s generalizing k with
 | nil=>simp at h
 | cons a r ih =>
   cases k with
   | zero =>
     have:a=c:=by simpa using hk
     simp [ixB,Lib.indexByte,this]
   | succ k =>
     have ha:a≠c:=h0 a (by simp)
     have:=ih (k:=k) (by simpa using h) (fun b hb=>h0 b (by simp [hb])) (by simpa using hk)
     show Lib.indexByte (a::r) c=_
     have e:Lib.indexByte r c=k:=this
     rw [Lib.indexByte]
     simp [ha,e]
     try omega
theorem ix_none {s:Bs} {c:UInt8} (h0: ∀ b ∈ s,b≠c):ixB s c<0:=by
 induction s with
 | nil=>simp [ixB,Lib.indexByte]
 | cons a r ih =>
   have ha:a≠c:=h0 a (by simp)
   have:=ih (fun b hb=>h0 b (by simp [hb]))
   have e:Lib.indexByte r c<0:=this
   show Lib.indexByte (a::r) c<0
   rw [Lib.indexByte]
   simp [ha]
   split<;>omega
theorem ix_some {s:Bs} {c:UInt8} (h: ¬ ixB s c<0):(ixB s c).toNat<s.length∧(∀ b ∈ s.take (ixB s c).toNat,b≠c)∧s.getD (ixB s c).toNat 0=c:=by
 induction s with
 | nil=>simp [ixB,Lib.indexByte] at h
 | cons a r ih =>
   by_cases ha:a=c
   · have e:ixB (a::r) c=0:=by simp [ixB,Lib.indexByte,ha]
     rw [e]
     exact ⟨by simp,by simp,by simpa using ha⟩
   · have e:ixB (a::r) c=if ixB r c<0 then -1 else ixB r c+1:=by
      show Lib.indexByte (a::r) c=_
      rw [Lib.indexByte]
      have hx:ixB r c=Lib.indexByte r c:=rfl
      rw [hx]
      have hb:=Lib.indexByte_ge r c
      simp [ha]
      split<;>split<;>omega
     rw [e] at h ⊢
     split at h
     · omega
     · rename_i hn
       obtain ⟨h1,h2,h3⟩:=ih hn
       rw [if_neg hn]
       have en:(ixB r c+1).toNat=(ixB r c).toNat+1:=by omega
       rw [en]
       refine ⟨by simp;omega,?_,by simpa using h3⟩
       intro b hb
       rw [List.take_succ_cons] at hb
       rcases List.mem_cons.1 hb with rfl|hb
       · exact ha
       · exact h2 b hb
/-- A slash before every colon: no scheme. -/
theorem schB_slash {s:Bs} {k:Nat} (h:k<s.length) (h0: ∀ b ∈ s.take k,b≠58) (hk:slq (s.getD k 0)=true):schB s=[]:=by
 unfold schB
 split
 · rfl
 · rename_i hn
   obtain ⟨h1,h2,h3⟩:=ix_some hn
   have hlt:k<(ixB s 58).toNat:=by
    rcases Nat.lt_trichotomy k (ixB s 58).toNat with h'|h'|h'
    · exact h'
    · rw [← h'] at h3
      rw [h3] at hk
      exact absurd hk (by decide)
    · exfalso
      refine h0 58 ?_ rfl
      rw [List.mem_take_iff_getElem]
      refine ⟨(ixB s 58).toNat,by omega,?_⟩
      rw [List.getD_eq_getElem?_getD,List.getElem?_eq_getElem h1] at h3
      exact h3
   unfold schP
   rw [if_pos]
   rw [List.any_eq_true]
   refine ⟨s.getD k 0,?_,hk⟩
   rw [List.mem_take_iff_getElem]
   refine ⟨k,by omega,?_⟩
   rw [List.getD_eq_getElem?_getD,List.getElem?_eq_getElem h];rfl
theorem schB_colon {s:Bs} {k:Nat} (h:k<s.length) (h0: ∀ b ∈ s.take k,b≠58∧slq b=false) (hk:s.getD k 0=58):schB s=if s.take k=[]∨(s.take k).all alnum=false then [63] else lowS (s.take k):=by
 have e:=ix_take h (fun b hb=>(h0 b hb).1) hk
 unfold schB
 rw [e,if_neg (by omega),Int.toNat_natCast]
 unfold schP
 rw [if_neg]
 intro ha
 rw [List.any_eq_true] at ha
 obtain ⟨b,hb,hq⟩:=ha
 rw [(h0 b hb).2] at hq;cases hq
theorem schB_none {s:Bs} (h0: ∀ b ∈ s,b≠58):schB s=[]:=by
 unfold schB
 rw [if_pos (ix_none h0)]
def escFor (p:Int) (s:Bs):Bs :=
 if p=1∨p=2 then escT s else if p=3 then (if safeB s=true then escT (pctS keepA s) else [35]) else if p=4 then pctS keep3 s else if p=5 then scrS s else []
theorem pctA_len: ∀ b:UInt8,(pctW keepA b).length≤3:=all_bytes (by decide)
theorem pct3_len: ∀ b:UInt8,(pctW keep3 b).length≤3:=all_bytes (by decide)
theorem flat_len {g:UInt8→Bs} {m:Nat} (h: ∀ b,(g b).length≤m): ∀ s:Bs,(s.flatMap g).length≤m * s.length
 | []=>by simp
 | b::r=>by
   have h1:=h b
   have h2:=flat_len h r
   rw [List.flatMap_cons,List.length_append,List.length_cons,Nat.mul_add]
   omega
theorem pctA_len' (s:Bs):(pctS keepA s).length≤3 * s.length:=flat_len pctA_len s
theorem pct3_len' (s:Bs):(pctS keep3 s).length≤3 * s.length:=flat_len pct3_len s
theorem escFor_len (p:Int) (s:Bs):(escFor p s).length≤18 * s.length+1:=by
 have h1:=escT_len s
 have h2:=escT_len (pctS keepA s)
 have h3:=pctA_len' s
 have h4:=pct3_len' s
 have h5:=scrS_len s
 unfold escFor
 (repeat' split)<;>(try simp only [List.length_cons,List.length_nil])<;>omega
theorem escFor_noSp (p:Int) (s:Bs):(escFor p s).all noSp=true:=by
 unfold escFor
 split
 · exact escT_noSp s
 split
 · split
   · exact escT_noSp _
   · rfl
 split
 · exact pctS_noSp s
 split
 · exact scrS_noSp s
 · rfl
theorem noSp_iff {b:UInt8}:noSp b=true↔b.toNat≠60∧b.toNat≠62∧b.toNat≠34∧b.toNat≠39:=by
 unfold noSp
 simp only [Bool.not_eq_true',Bool.or_eq_false_iff,decide_eq_false_iff_not]
 constructor
 · rintro ⟨⟨⟨h1,h2⟩,h3⟩,h4⟩;exact ⟨h1,h2,h3,h4⟩
 · rintro ⟨h1,h2,h3,h4⟩;exact ⟨⟨⟨h1,h2⟩,h3⟩,h4⟩
theorem step_val {s:St} (h:stV s=true) (b:UInt8):step s b=stepV s b:=by unfold step;rw [if_pos h]
theorem st_mode0 {s:St} (h:stV s=true) (hm:s.mode=0):s=st0:=by
 have h1:=stV_tag0 h (by omega)
 have h2:=stV_attr0 h (by omega)
 have h3:=stV_seen0 h (by omega)
 cases s
 simp only at hm h1 h2 h3
 subst hm h1 h2 h3
 rfl
theorem st_mode12 {s:St} (h:stV s=true) (hm:s.mode=12):s=⟨12,[],[],false⟩:=by
 have h1:=stV_tag0 h (by omega)
 have h2:=stV_attr0 h (by omega)
 have h3:=stV_seen0 h (by omega)
 cases s
 simp only at hm h1 h2 h3
 subst hm h1 h2 h3
 rfl
theorem stV_seen67 {s:St} (h:stV s=true) (hm:s.mode=6∨s.mode=7) (x:Bool):stV ⟨s.mode,s.tag,s.attr,x⟩=true:=by
 have h1:=stV_tagN h (by omega)
 have h2:=stV_attrN h (by omega)
 simp only [stV,tagOk,attrOk,seenOk]
 rcases hm with e|e<;>simp [e,h1,h2]
def s12:St:=⟨12,[],[],false⟩
def s13:St:=⟨13,[],[],false⟩
theorem step12 {b:UInt8} (h:b.toNat≠60) (h2:b.toNat≠34):step s12 b=if b.toNat=92 then s13 else s12:=by
 rw [step_val (by decide),stepV_12 rfl,if_neg h2,if_neg h];rfl
theorem step13 {b:UInt8} (h:b.toNat≠60):step s13 b=s12:=by
 rw [step_val (by decide),stepV_13 rfl,if_neg h];rfl
theorem hexL_noSp: ∀ n:Nat,n<16→(hexL.getD n 0).toNat≠60∧(hexL.getD n 0).toNat≠34∧(hexL.getD n 0).toNat≠92:=by decide
end Go.Proofs.YtnbjogilidfkdaaGreat
