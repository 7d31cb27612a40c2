/- Texts as data: what the program's and the reference's functions on texts compute. No program. -/
import Derived.Test.YtnbjogilidfkdaaGreatVF12

namespace Go.Proofs.YtnbjogilidfkdaaGreat
set_option maxRecDepth 100000
set_option linter.unusedVariables false
set_option linter.unusedSimpArgs false
abbrev Bs:=List UInt8
def ofI (x:Int):UInt8:=UInt8.ofNat x.toNat
@[go_sem] theorem ofI_nat (b:UInt8):ofI (b.toNat:Int)=b:=by unfold ofI;simp
theorem byte_of {x:Int} (h0:0≤x) (h1:x<256): ∃ b:UInt8,x=(b.toNat:Int):=by
 refine ⟨UInt8.ofNat x.toNat,?_⟩
 have h:x.toNat<256:=by omega
 rw [UInt8.toNat_ofNat_of_lt' h]
 omega
theorem byte_lt' (b:UInt8):b.toNat<256:=b.toNat_lt
/-- What holds of all bytes may be tried. -/
theorem all_bytes {p:UInt8→Prop} (h: ∀ n,n<256→p (UInt8.ofNat n)) (b:UInt8):p b:=by
 have:=h b.toNat b.toNat_lt
 rwa [UInt8.ofNat_toNat] at this
theorem getD_lt {s:Bs} {k:Nat} (h:k<s.length):s.getD k 0=s[k]:=by simp [List.getD_eq_getElem?_getD,List.getElem?_eq_getElem h]
theorem take_succ_getD {s:Bs} {k:Nat} (h:k<s.length):s.take (k+1)=s.take k++[s.getD k 0]:=by
 rw [List.take_succ_eq_append_getElem h,getD_lt h]
theorem drop_getD {s:Bs} {k:Nat} (h:k<s.length):s.drop k=s.getD k 0::s.drop (k+1):=by
 rw [getD_lt h];exact List.drop_eq_getElem_cons h
theorem flatMap_snoc {g:UInt8→Bs} {s:Bs} {k:Nat} (h:k<s.length):(s.take (k+1)).flatMap g=(s.take k).flatMap g++g (s.getD k 0):=by
 rw [take_succ_getD h,List.flatMap_append];simp
theorem map_snoc {g:UInt8→UInt8} {s:Bs} {k:Nat} (h:k<s.length):(s.take (k+1)).map g=(s.take k).map g++[g (s.getD k 0)]:=by
 rw [take_succ_getD h,List.map_append];simp
theorem flatMap_len {g:UInt8→Bs} {m:Nat} (hg: ∀ b,(g b).length≤m) (s:Bs):(s.flatMap g).length≤m * s.length:=by
 induction s with
 | nil=>simp
 | cons b r ih =>
   have:=hg b
   rw [List.flatMap_cons,List.length_append,List.length_cons,Nat.mul_succ]
   omega
theorem bc_inj {a b:UInt8} (h:bc a=bc b):a=b:=by
 simp only [bc,List.cons.injEq,PV.int.injEq,true_and,and_true] at h
 exact UInt8.toNat_inj.1 (by omega)
@[go_sem] theorem bc_map_inj {l m:Bs}:l.map bc=m.map bc↔l=m:=List.map_inj_right (fun _ _ h=>bc_inj h)
@[go_sem] theorem bc_one {b:UInt8} {l:Bs}:[[PV.int .u8 (b.toNat:Int)]]=l.map bc↔[b]=l:=by
 rw [show [[PV.int .u8 (b.toNat:Int)]]=[b].map bc from rfl,bc_map_inj]
@[go_sem] theorem bc_snoc {b:UInt8} {m l:Bs}:m.map bc++[[PV.int .u8 (b.toNat:Int)]]=l.map bc↔m++[b]=l:=by
 rw [show m.map bc++[[PV.int .u8 (b.toNat:Int)]]=(m++[b]).map bc by simp [bc],bc_map_inj]
@[go_sem] theorem bc_len (b:UInt8):(bc b).length=1:=rfl
@[go_sem] theorem bc_all (m:Bs): ∀ z ∈ m.map bc,z.length=1:=by
 intro z hz
 obtain ⟨b,_,rfl⟩:=List.mem_map.1 hz
 rfl
def isLet (b:UInt8):Bool:=decide ((97≤b.toNat∧b.toNat≤122)∨(65≤b.toNat∧b.toNat≤90))
def isDig (b:UInt8):Bool:=decide (48≤b.toNat∧b.toNat≤57)
def hasB (s:Bs) (b:UInt8):Bool:=s.any fun c=>decide (c.toNat=b.toNat)
theorem hasB_snoc {s:Bs} {k:Nat} {b:UInt8} (h:k<s.length):hasB (s.take (k+1)) b=(hasB (s.take k) b || decide ((s.getD k 0).toNat=b.toNat)):=by
 unfold hasB;rw [take_succ_getD h,List.any_append];simp
theorem hasB_at {s:Bs} {k:Nat} {b:UInt8} (h:k<s.length) (e:(s.getD k 0).toNat=b.toNat):hasB s b=true:=by
 unfold hasB;rw [List.any_eq_true]
 exact ⟨s[k],List.getElem_mem h,by rw [getD_lt h] at e;simpa using e⟩
def low1 (b:UInt8):UInt8:=if 65≤b.toNat∧b.toNat≤90 then UInt8.ofNat (b.toNat+32) else b
theorem low1_nat (b:UInt8):(low1 b).toNat=if 65≤b.toNat∧b.toNat≤90 then b.toNat+32 else b.toNat:=by
 unfold low1
 split
 · rw [UInt8.toNat_ofNat_of_lt' (by show b.toNat+32<256;omega)]
 · rfl
def lowS (s:Bs):Bs:=s.map low1
/-- What stands in place of a byte, or nothing. -/
def entOf (b:UInt8):Bs :=
 if b.toNat=38 then [38,97,109,112,59] else if b.toNat=60 then [38,108,116,59] else if b.toNat=62 then [38,103,116,59]
 else if b.toNat=34 then [38,113,117,111,116,59] else if b.toNat=39 then [38,35,51,57,59] else []
def ent1 (b:UInt8):Bs:=if entOf b=[] then [b] else entOf b
theorem ent1_len (b:UInt8):1≤(ent1 b).length∧(ent1 b).length≤6:=by
 unfold ent1 entOf
 (repeat' split)<;>simp_all
def escT (s:Bs):Bs:=s.flatMap ent1
theorem escT_len (s:Bs):(escT s).length≤6 * s.length:=flatMap_len (fun b=>(ent1_len b).2) s
def specials:Bs:=[38,60,62,34,39]
/-- The byte whose entity a text begins with, and how long that is. -/
def entAt (s:Bs):UInt8×Nat :=
 if List.isPrefixOf [38,97,109,112,59] s=true then (38,5) else if List.isPrefixOf [38,108,116,59] s=true then (60,4) else if List.isPrefixOf [38,103,116,59] s=true then (62,4)
 else if List.isPrefixOf [38,113,117,111,116,59] s=true then (34,6) else if List.isPrefixOf [38,35,51,57,59] s=true then (39,5) else (0,0)
/-- None of the first k. -/
def noEnt (s:Bs) (k:Nat):Prop:=(1≤k→List.isPrefixOf [38,97,109,112,59] s=false)∧(2≤k→List.isPrefixOf [38,108,116,59] s=false)∧(3≤k→List.isPrefixOf [38,103,116,59] s=false)∧(4≤k→List.isPrefixOf [38,113,117,111,116,59] s=false)∧(5≤k→List.isPrefixOf [38,35,51,57,59] s=false)
theorem entAt_len (s:Bs):(entAt s).2≤s.length∧(entAt s).2≤6:=by
 have pre: ∀ p:Bs,p.isPrefixOf s=true→p.length≤s.length:=fun p h=>(List.isPrefixOf_iff_prefix.1 h).length_le
 unfold entAt
 (repeat' split)<;>(try (have:=pre _ ‹_›;simp [entOf] at this))<;>simp<;>omega
theorem entOf_len (b:UInt8):(entOf b).length≤6:=by unfold entOf;(repeat' split)<;>simp
theorem prefix_iff {p s:Bs}:p.isPrefixOf s=decide (p.length≤s.length∧s.take p.length=p):=by
 rw [Bool.eq_iff_iff,List.isPrefixOf_iff_prefix,decide_eq_true_iff]
 constructor
 · intro h;exact ⟨h.length_le,(List.prefix_iff_eq_take.1 h).symm⟩
 · rintro ⟨_,h⟩;rw [← h];exact List.take_prefix _ _
def unF:Nat→Bs→Bs
 | 0,_=>[]
 | _+1,[]=>[]
 | n+1,b::r=>if (entAt (b::r)).2=0 then b::unF n r else (entAt (b::r)).1::unF n ((b::r).drop (entAt (b::r)).2)
def unT (s:Bs):Bs:=unF s.length s
theorem unF_enough: ∀ (n m:Nat) (s:Bs),s.length≤n→s.length≤m→unF n s=unF m s
 | 0,m,s,h,_=>by
   obtain rfl:s=[]:=List.eq_nil_of_length_eq_zero (by omega)
   cases m<;>simp [unF]
 | n+1,0,s,_,h=>by
   obtain rfl:s=[]:=List.eq_nil_of_length_eq_zero (by omega)
   simp [unF]
 | n+1,m+1,[],_,_=>by simp [unF]
 | n+1,m+1,b::r,h,h'=>by
   simp only [List.length_cons] at h h'
   simp only [unF]
   split
   · rw [unF_enough n m r (by omega) (by omega)]
   · rw [unF_enough n m _ (by simp;omega) (by simp;omega)]
theorem unT_cons (b:UInt8) (r:Bs):unT (b::r)=if (entAt (b::r)).2=0 then b::unT r else (entAt (b::r)).1::unT ((b::r).drop (entAt (b::r)).2):=by
 unfold unT
 simp only [List.length_cons,unF]
 split
 · rfl
 · rw [unF_enough _ ((b::r).drop (entAt (b::r)).2).length _ (by simp;omega) (Nat.le_refl _)]
theorem unF_len: ∀ (n:Nat) (s:Bs),(unF n s).length≤s.length
 | 0,s=>by simp [unF]
 | n+1,[]=>by simp [unF]
 | n+1,b::r=>by
   simp only [unF]
   split
   · have:=unF_len n r;simp;omega
   · have:=unF_len n ((b::r).drop (entAt (b::r)).2)
     simp only [List.length_cons,List.length_drop] at this ⊢
     omega
theorem unT_len (s:Bs):(unT s).length≤s.length:=unF_len _ _
def hexU:Bs:=[48,49,50,51,52,53,54,55,56,57,65,66,67,68,69,70]
def hexL:Bs:=[48,49,50,51,52,53,54,55,56,57,97,98,99,100,101,102]
def plain3 (b:UInt8):Bool:=isLet b || isDig b || hasB [45,95,46,126] b
def pct1 (b:UInt8):Bs:=[37,hexU.getD (b.toNat / 16) 0,hexU.getD (b.toNat % 16) 0]
def pctW (keep:Bs) (b:UInt8):Bs:=if isLet b || isDig b || hasB keep b then [b] else pct1 b
def pctS (keep s:Bs):Bs:=s.flatMap (pctW keep)
theorem pctW_len (keep:Bs) (b:UInt8):(pctW keep b).length≤3:=by unfold pctW;split<;>simp [pct1]
theorem pctS_len (keep s:Bs):(pctS keep s).length≤3 * s.length:=flatMap_len (pctW_len keep) s
def keep3:Bs:=[45,95,46,126]
def keepA:Bs:=[45,95,46,126,47,58,63,61,38,37,35,64,43,44,59]
def spec4 (b:UInt8):Bool:=decide (b.toNat<32) || decide (126<b.toNat) || hasB [92,34,39,60,62,38] b
def code4 (b:UInt8):Bs:=[92,120,hexL.getD (b.toNat / 16) 0,hexL.getD (b.toNat % 16) 0]
def scr1 (b:UInt8):Bs:=if spec4 b then code4 b else [b]
def scrS (s:Bs):Bs:=s.flatMap scr1
theorem scr1_len (b:UInt8):(scr1 b).length≤4:=by unfold scr1;split<;>simp [code4]
theorem scrS_len (s:Bs):(scrS s).length≤4 * s.length:=flatMap_len scr1_len s
end Go.Proofs.YtnbjogilidfkdaaGreat
