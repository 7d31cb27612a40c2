/- LowerText. -/
import Derived.Test.YtnbjogilidfkdaaGreatRows
import Derived.Test.YtnbjogilidfkdaaGreatVM
import Derived.Test.YtnbjogilidfkdaaGreatVM2
import Derived.Lib.Hide

namespace Go.Proofs.YtnbjogilidfkdaaGreat
set_option maxRecDepth 100000
set_option linter.unusedVariables false
set_option linter.unusedSimpArgs false
open Go.RowKit
/-- A byte in small letters. -/
def lowB (b:UInt8):UInt8:=if 65≤b∧b≤90 then b+32 else b
def lowL (l:List UInt8):List UInt8:=l.map lowB
theorem lowB_nat (b:UInt8):(lowB b).toNat=if 65≤b.toNat∧b.toNat≤90 then b.toNat+32 else b.toNat:=by
 unfold lowB
 simp only [UInt8.le_iff_toNat_le]
 split
 · rename_i h
   rw [if_pos (by simpa using h),UInt8.toNat_add]
   have:b.toNat≤90:=by simpa using h.2
   simp;omega
 · rename_i h
   rw [if_neg (by simpa using h)]
/-- The first k bytes in small letters. -/
def lowTo (l:List UInt8) (k:Nat):List UInt8:=(l.take k).map lowB++l.drop k
theorem lowTo_zero (l:List UInt8):lowTo l 0=l:=by simp [lowTo]
theorem lowTo_all (l:List UInt8):lowTo l l.length=lowL l:=by simp [lowTo,lowL]
theorem lowTo_length (l:List UInt8) (k:Nat):(lowTo l k).length=l.length:=by simp [lowTo];omega
theorem lowTo_at (l:List UInt8) (k:Nat) (h:k<l.length):(lowTo l k).getD k 0=l.getD k 0:=by
 unfold lowTo
 rw [List.getD_eq_getElem?_getD,List.getElem?_append_right (by simp;omega)]
 simp [List.getD_eq_getElem?_getD,Nat.min_eq_left (Nat.le_of_lt h)]
theorem lowTo_succ (l:List UInt8) (k:Nat) (h:k<l.length):lowTo l (k+1)=(lowTo l k).set k (lowB (l.getD k 0)):=by
 unfold lowTo
 have e0:k - ((l.take k).map lowB).length=0:=by simp;omega
 have e1:l.getD k 0=l[k]:=by simp [List.getD_eq_getElem?_getD,h]
 rw [List.set_append_right _ _ (by simp;omega),e0,e1,List.take_succ_eq_append_getElem h]
 conv=>rhs;rw [List.drop_eq_getElem_cons h]
 rw [List.set_cons_zero,List.map_append,List.append_assoc]
 rfl
theorem lowTo_same (l:List UInt8) (k:Nat) (h:k<l.length) (h':lowB (l.getD k 0)=l.getD k 0):lowTo l (k+1)=lowTo l k:=by
 rw [lowTo_succ l k h,h']
 apply List.ext_getElem?
 intro i
 rw [List.getElem?_set]
 split
 · rename_i e;subst e
   rw [if_pos (by rw [lowTo_length];exact h)]
   have:=lowTo_at l k h
   rw [List.getD_eq_getElem?_getD,List.getElem?_eq_getElem (by rw [lowTo_length];exact h),Option.getD_some] at this
   rw [List.getElem?_eq_getElem (by rw [lowTo_length];exact h),this]
 · rfl
set_option maxHeartbeats 1000000 in
theorem lowerText_i (s:ByteArray) (hs:s.size≤maxLen) (w:World) :
 Calls Tryz.prog 37 #[.string s] w fun e w'=>e= .returned (.string ⟨(lowL s.data.toList).toArray⟩)∧Below w.heap.size w w':=by
 unfold maxLen at hs
 have hconv:=run_bytes_of_string (P:=Tryz.prog) w 9 22 5 s Tryz.underlying9 Tryz.underlying22 Tryz.underlying5
 have hcap:=grownCap_ge w s.size 0 5
 generalize grownCap w s.size 0 5=c at *
 have hown:=OwnBytes.conv w 5 s c hcap
 have hbel:=(Below.refl w.heap.size w).alloc (Nat.le_refl _) (.cells (bytesRow s c) 5 ((bytesRow s c).size,(bytesRow s c).size+1))
 generalize hO:Obj.cells (bytesRow s c) 5 ((bytesRow s c).size,(bytesRow s c).size+1)=O at *
 clear hO
 go_enter Tryz.func37,Tryz.ntmps37
 go_wp2
 have hbelD:=hbel.drew
 have hownD:=hown.drew
 generalize (w.alloc O).drew=w1 at hbelD hownD ⊢
 go_loopw [4,5,10] (fun _ _ i wr=> ∃ k:Nat,k≤s.size∧i= .int .i64 k∧OwnBytes wr w.heap.size (lowTo s.data.toList k)∧Below w.heap.size w wr) (fun _ _ i _=>s.size - (intOf i).toNat)
 case atStart=>exact ⟨0,Nat.zero_le _,rfl,by rw [lowTo_zero];exact hownD,hbelD⟩
 case round =>
  obtain ⟨k,hk,rfl,ho,hb⟩:=hrel
  by_cases hlt:k<s.size
  · have hl:(lowTo s.data.toList k).length=s.size:=by rw [lowTo_length];simp
    obtain ⟨hc,hf⟩:=ho k (by omega)
    rw [lowTo_at _ _ (by simpa using hlt)] at hc
    have hbd:(s.data.toList.getD k 0).toNat<256:=UInt8.toNat_lt _
    have hs1:=lowTo_succ _ _ (by simpa using hlt:k<s.data.toList.length)
    have hs2:=lowTo_same _ _ (by simpa using hlt:k<s.data.toList.length)
    have hlow:=lowB_nat (s.data.toList.getD k 0)
    by_cases hcap:65≤(s.data.toList.getD k 0).toNat∧(s.data.toList.getD k 0).toNat≤90
    · have ho':=ho.set k (lowB (s.data.toList.getD k 0))
      have hb':=hb.setCell (p:=⟨w.heap.size,k,none⟩) (Nat.le_refl _) (.int .u8 (lowB (s.data.toList.getD k 0)).toNat)
      rw [← hs1] at ho'
      rw [if_pos hcap] at hlow
      rw [hlow] at ho' hb'
      generalize s.data.toList.getD k 0=b at *
      have HH:=Lib.hid (And.intro ho' hb')
      obtain ⟨h65,h90⟩:=hcap
      clear ho' hb' ho hb hlow hownD hbelD hl hs1 hs2
      go_wp2
      go_roundw
      case rel=>exact ⟨k+1,by omega,by go_num,HH.out.1,HH.out.2⟩
      case measure=>simp [intOf];omega
    · rw [if_neg hcap] at hlow
      have e:=hs2 (UInt8.toNat.inj hlow)
      rw [← e] at ho
      generalize s.data.toList.getD k 0=b at *
      have HH:=Lib.hid (And.intro ho hb)
      clear ho hb hlow hownD hbelD hl hs1 hs2 e
      by_cases h65:65≤b.toNat
      · have h90: ¬ b.toNat≤90:=by omega
        go_wp2
        go_roundw
        case rel=>exact ⟨k+1,by omega,by go_num,HH.out.1,HH.out.2⟩
        case measure=>simp [intOf];omega
      · go_wp2
        go_roundw
        case rel=>exact ⟨k+1,by omega,by go_num,HH.out.1,HH.out.2⟩
        case measure=>simp [intOf];omega
  · have hk':k=s.data.toList.length:=by simp;omega
    rw [hk',lowTo_all] at ho
    have hback:=run_convert_bytes_back (P:=Tryz.prog) wr 22 9 5 ⟨w.heap.size,0,none⟩ c (lowL s.data.toList) Tryz.underlying22 Tryz.underlying5 Tryz.underlying9 ho.str
    have hl:(lowL s.data.toList).length=s.size:=by simp [lowL]
    rw [hl] at hback
    clear hk' ho hl hownD hbelD hown hbel hconv
    go_wp2
    go_ret
    exact ⟨rfl,hb⟩
end Go.Proofs.YtnbjogilidfkdaaGreat
