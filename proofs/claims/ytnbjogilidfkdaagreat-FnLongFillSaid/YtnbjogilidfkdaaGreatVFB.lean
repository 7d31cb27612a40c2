/- strings.Builder: its methods' contracts over a builder of one's own. -/
import Derived.Test.YtnbjogilidfkdaaGreatVTY
import Derived.Test.YtnbjogilidfkdaaGreatRows
import Derived.Lib.Builder
import Derived.Lib.AppendStr
import Derived.Lib.MakeNoZero
import Derived.Shelf.RegionOpenPlain
import Derived.Shelf.Strings.BuilderK

namespace Go.Proofs.YtnbjogilidfkdaaGreat
set_option maxRecDepth 100000
set_option linter.unusedVariables false
set_option linter.unusedSimpArgs false
open Go.RowKit
/-- All but these blocks is as it was. -/
structure Kp (w w':World) (S:Nat→Prop):Prop where
 os:w'.os=w.os
 tape:w'.tape=w.tape
 output:w'.output=w.output
 size:w.heap.size≤w'.heap.size
 block: ∀ k,k<w.heap.size→ ¬ S k→w'.heap[k]?=w.heap[k]?
theorem Kp.refl (w:World) (S:Nat→Prop):Kp w w S:=⟨rfl,rfl,rfl,Nat.le_refl _,fun _ _ _=>rfl⟩
theorem Kp.trans {a b c:World} {S T:Nat→Prop} (h:Kp a b S) (k:Kp b c T) (hT: ∀ x,x<a.heap.size→T x→S x):Kp a c S :=
 ⟨k.os.trans h.os,k.tape.trans h.tape,k.output.trans h.output,Nat.le_trans h.size k.size,fun x hx hs=>(k.block x (Nat.lt_of_lt_of_le hx h.size) (fun ht=>hs (hT x hx ht))).trans (h.block x hx hs)⟩
theorem Kp.setCell (a:World) (b o:Nat) (v:Value):Kp a (a.setCell ⟨b,o,none⟩ v) (· =b) :=
 ⟨rfl,rfl,rfl,by simp [World.setCell],fun k _ hs=>Below.heap_setCell _ _ _ _ hs⟩
theorem Kp.alloc (a:World) (o:Obj) (S:Nat→Prop):Kp a (a.alloc o) S:=⟨rfl,rfl,rfl,by simp,fun k hk _=>heap_alloc_lt _ _ hk⟩
theorem Kp.drew (a:World) (S:Nat→Prop):Kp a a.drew S:=⟨rfl,rfl,rfl,Nat.le_refl _,fun k hk _=>rfl⟩
theorem Kp.freeze (a:World) (g n:Nat):Kp a (a.freeze ⟨g,0,none⟩ n) (· =g):=by
 unfold World.freeze
 split
 · exact .refl _ _
 · exact ⟨rfl,rfl,rfl,by simp,fun k hk hs=>by simp [Array.getElem?_modify,Ne.symm hs]⟩
/-- A step that changes one block of memory of one's own. -/
theorem step_gen {c:Cx} {mem:Mem} {n i:Nat} {p:OwnP} {d d':List PV} {v:Value} {S S':Nat→Prop} {w':World} (hI:InvM c mem) (hn:Names c n) (hm:mem i=some (.gen p d)) (hv:c.ρ i=some v) (hS:p.R d c.w v S)
 (hk:Kp c.w w' S) (hr:p.R d' w' v S') (hS': ∀ b,S' b→S b∨c.w.heap.size≤b) :
 Step c mem n ⟨w',c.fz,c.ρ⟩ (upd mem i (some (.gen p d'))) n:=by
 have hmr:MRep c i S (.gen p d):=⟨v,hv,hS⟩
 obtain ⟨h1,h2,h3⟩:=InvM.put (c:=c) (c':=⟨w',c.fz,c.ρ⟩) (mem:=mem) (mem':=upd mem i (some (.gen p d'))) (j:=i) (S':=S') hI (some i) rfl (fun _ _=>rfl) (.inr rfl)
  (upd_same _ _ _) (fun k hk=> .inl (upd_other _ _ hk)) (fun j hj=>by cases hj;exact ⟨by simp [hm],.inl rfl⟩) (.inl rfl) hk.size
  (fun b hb hs=>hk.block b hb (hs i _ S rfl hm hmr)) (fun _=>⟨v,hv,hr⟩)
  (fun b hb=>(hS' b hb).imp (fun hs=>⟨i,_,S,rfl,hm,hmr,hs⟩) id)
 exact ⟨h1,h2,hk.os,hk.tape,hk.output,hk.size,fun b hb hb'=>hk.block b hb (fun hs=>hb' ⟨i,S,_,hm,hmr,hs⟩),h3,fun b hb=> .inl hb,Nat.le_refl _,fun _ _=>rfl,hn⟩
theorem infoByte:(Tryz.prog.info? 5).map (fun i=>(i.zero,i.size,i.bytes))=some (some (.int .u8 0),1,1):=by kernel_rfl
theorem cellsByte:Tryz.prog.cellsOf 5=1:=by kernel_rfl
theorem sizeBuilder:(Tryz.prog.info? 54).map (·.size)=some 2:=by kernel_rfl
theorem liesBuilder:liesAt Tryz.prog Tryz.prog.depth 54 (2 / Tryz.prog.cellsOf 54) 0 54 1=true:=by kernel_rfl
/-- append(buf, s...): the block is the old one, or new. -/
theorem app_str_block {P:Program} (w:World) (t u ty e:TypeId) (i:TypeInfo) (ht:P.underlying t=some (.slice e)) (hu:P.underlying u=some .string) (hi:P.info? e=some i) (hz:i.zero=some (.int .u8 0))
 (hsize:i.size=1) (hby:i.bytes=1) (v:Value) (n:Nat) (xs:List Value) (hown:w.ownsRow 0 e 1 v n xs) (s:ByteArray) (hbytes:n+s.size≤140737488355328)
 {v':Value} {w':World} (hr:(Builtin.append_ #[t,u] ty #[v,.string s]).run P w= .ok v' w'):v'.ownBlock=v.ownBlock∨v'.ownBlock=some w.heap.size:=by
 rcases hown.2 with ⟨rfl,rfl⟩|⟨g,cap,cur,rfl,hbg,hg,hnc,hcm,hcs,htake⟩
 · by_cases h0:s.size=0
   · obtain ⟨v2,w2,h1,_,_,h4⟩:=Lib.run_append_own_string (P:=P) w 0 t u ty e i ht hu hi hz hsize hby (.slice none 0 0) 0 xs hown s (by unfold maxLen;omega) hbytes (Nat.zero_le _)
     rw [h1] at hr
     cases hr
     rw [h4.2 ⟨rfl,h0⟩]
     exact .inl rfl
   · have h1:=run_append_nil_string (P:=P) w t u ty e i (.int .u8 0) ht hu hi hz s (by omega) (by omega) (by rw [hby];omega)
     rw [h1] at hr
     cases hr
     exact .inr rfl
 · have hcs':cur.size=cap:=by simpa using hcs
   by_cases hroom:n+s.size≤cap
   · have h1:=Lib.run_append_room_string (P:=P) w t u ty e i ht hu hi hsize g n cap cur hg s hroom (by omega)
     rw [h1] at hr
     cases hr
     exact .inl rfl
   · have holds: ∀ j u,xs[j]?=some u→w.cell? ((⟨g,0,none⟩:Addr).add j)=some u:=hown.cells (g:=g) rfl
     have h1:=Lib.run_append_grow_string (P:=P) w t u ty e i (.int .u8 0) ht hu hi hz ⟨g,0,none⟩ n cap xs (by rw [hsize];simpa using hown.1) holds s (by omega) (by omega) (by rw [hby];exact growslice_fits (by omega) (by omega))
     rw [h1] at hr
     cases hr
     exact .inr rfl
theorem wpList_app_str {P:Program} (w:World) {ops:Array Oper} {rest:List Oper} {o:Oper} {a:Act} {Q:Exit→Act→World→Prop} (hgd:o.guard=none) (sl x:Operand) (t u e:TypeId) (i:TypeInfo)
 (ho:o.op= .call { callee:= .builtin .append,args:= #[sl,x],argTypes:= #[t,u] })
 (ht:P.underlying t=some (.slice e)) (hu:P.underlying u=some .string) (hi:P.info? e=some i) (hz:i.zero=some (.int .u8 0)) (hsize:i.size=1) (hby:i.bytes=1)
 (v:Value) (n:Nat) (xs:List Value) (hs:a.eval sl=v) (hown:w.ownsRow 0 e 1 v n xs) (s:ByteArray) (hx:a.eval x= .string s) (hbytes:n+s.size≤140737488355328)
 (h: ∀ v' w',w'.ownsRow 0 e 1 v' (n+s.size) (xs++Lib.strCells s)→w.grownBy w' v.ownBlock→(v'.ownBlock=v.ownBlock∨v'.ownBlock=some w.heap.size)→wpList P ops Q rest (a.put o.dst v') w'):wpList P ops Q (o::rest) a w:=by
 refine wpList_plain hgd fun K hK=>?_
 obtain ⟨v',w',hr,h2,h3,h4⟩:=Lib.run_append_own_string (P:=P) w 0 t u o.type e i ht hu hi hz hsize hby v n xs hown s (by unfold maxLen;omega) hbytes (Nat.zero_le _)
 have h5:=app_str_block w t u o.type e i ht hu hi hz hsize hby v n xs hown s hbytes hr
 unfold Oper.wp execOp
 simp only [ho,resolve,invoke,builtin,Sem.run_bind,Sem.run_pure,Result.andThen_ok,List.map_toArray,List.map_cons,List.map_nil,hs,hx,hr]
 exact hK _ _ (h v' w' h2 h3 h5)
/-- A builder at a block, in a world. -/
def BAt (w:World) (b:Nat) (p buf:Value) (l:List UInt8):Prop :=
 w.heap[b]?=some (.cells #[p,buf] 54 (0,0))∧(p= .pointer none∨p= .pointer (some ⟨b,0,none⟩))∧w.ownsRow 0 5 1 buf l.length (Lib.byteCells l)∧buf.ownBlock≠some b
def BAtF (w:World) (b:Nat) (p buf:Value) (l:List UInt8):Prop :=
 w.heap[b]?=some (.cells #[p,buf] 54 (0,0))∧(p= .pointer none∨p= .pointer (some ⟨b,0,none⟩))∧w.ownsRowF 0 5 1 buf l.length (Lib.byteCells l)∧buf.ownBlock≠some b
set_option maxHeartbeats 1000000 in
theorem copyCheck_any (b:Nat) (p buf:Value) (l:List UInt8) (w:World) (h:BAt w b p buf l) :
 Calls Tryz.prog 59 #[.pointer (some ⟨b,0,none⟩)] w fun e w'=>e= .returned (.tuple #[])∧BAt w' b (.pointer (some ⟨b,0,none⟩)) buf l∧Kp w w' (· =b):=by
 obtain ⟨h1,h2,h3,h4⟩:=h
 obtain ⟨j,hj,hjs⟩:=Option.map_eq_some_iff.1 sizeBuilder
 have hjs':j.size=2:=hjs
 have h0:w.cell? ⟨b,0,none⟩=some p:=by rw [Lib.cell_of_heap h1];rfl
 have hlt:b<w.heap.size:=(Array.getElem?_eq_some_iff.1 h1).1
 have hsh:w.shape? b=some (54,2):=by simp [World.shape?,h1]
 have hfz:w.frozen? ⟨b,0,none⟩=false:=by simp [World.frozen?,h1]
 rcases h2 with rfl|rfl
 · go_enter Tryz.func59,Tryz.ntmps59
   go_wp2
   rw [Lib.run_to_unsafe w ⟨b,0,none⟩ Tryz.underlying52 Tryz.underlying116 hj (by rw [hjs'];decide) hsh (Nat.zero_lt_succ 1)]
   simp only [Result.andThen]
   rw [Oper.upon_value]
   go_wp2
   rw [run_callFunc_extern Tryz.func97 (by kernel_rfl) (by kernel_rfl) (by kernel_rfl) (e:=Extern.AbiNoEscape.same) (by kernel_rfl)]
   rw [Lib.run_noEscape]
   simp only [Result.andThen]
   rw [Oper.upon_value]
   go_wp2
   rw [Lib.run_from_unsafe w ⟨b,0,none⟩ Tryz.underlying116 Tryz.underlying52 hj hsh liesBuilder]
   simp only [Result.andThen]
   rw [Oper.upon_value]
   go_wp2
   go_end0
   refine ⟨rfl,⟨?_,.inr rfl,?_,h4⟩,Kp.setCell _ _ _ _⟩
   · simp [World.setCell,Array.getElem?_modify,h1]
   · exact ownsRow_block h3 (fun k hk=>Below.heap_setCell _ _ _ _ (fun e=>h4 (by rw [hk,e])))
 · go_enter Tryz.func59,Tryz.ntmps59
   go_wp2
   rw [Lib.run_neq_ptr_same w _ Tryz.underlying52 hj]
   go_wp2
   go_end0
   exact ⟨rfl,⟨h1,.inr rfl,h3,h4⟩,.refl _ _⟩
/-- What a write leaves. -/
def Wrote (w w':World) (b:Nat) (buf:Value) (l:List UInt8):Prop :=
 (∃ buf',BAt w' b (.pointer (some ⟨b,0,none⟩)) buf' l∧ ∀ k,buf'.ownBlock=some k→buf.ownBlock=some k∨w.heap.size≤k)∧Kp w w' (fun k=>k=b∨buf.ownBlock=some k)
theorem wrote_of {w w1 w2:World} {b:Nat} {buf v':Value} {l l':List UInt8} (hb1:Kp w w1 (· =b)) (hs1:w.heap.size≤w1.heap.size) (hown:w1.ownsRow 0 5 1 buf l.length (Lib.byteCells l)) (hne:buf.ownBlock≠some b)
 (hb2:w2.heap[b]?=some (.cells #[.pointer (some ⟨b,0,none⟩),buf] 54 (0,0))) (hown':w2.ownsRow 0 5 1 v' l'.length (Lib.byteCells l')) (hgrow:w1.grownBy w2 buf.ownBlock) (hblk: ∀ k,v'.ownBlock=some k→buf.ownBlock=some k∨w.heap.size≤k) (hlt:b<w.heap.size) :
 Wrote w (w2.setCell ⟨b,1,none⟩ v') b buf l':=by
 have hne':v'.ownBlock≠some b:=fun e=>(hblk b e).elim hne (fun h=>by omega)
 refine ⟨⟨v',⟨?_,.inr rfl,?_,hne'⟩,hblk⟩,?_⟩
 · simp [World.setCell,Array.getElem?_modify,hb2]
 · exact ownsRow_block hown' (fun k hk=>Below.heap_setCell _ _ _ _ (fun e=>hne' (by rw [hk,e])))
 · have k1:Kp w w2 (fun k=>k=b∨buf.ownBlock=some k):=by
    refine ⟨hgrow.os.trans hb1.os,hgrow.tape.trans hb1.tape,hgrow.output.trans hb1.output,Nat.le_trans hs1 hgrow.size,fun k hk hs=>?_⟩
    rw [hgrow.block k (Nat.lt_of_lt_of_le hk hs1) (fun e=>hs (.inr e.symm))]
    exact hb1.block k hk (fun e=>hs (.inl e))
   exact k1.trans (Kp.setCell w2 b 1 v') (fun k _ e=> .inl e)
set_option maxHeartbeats 2000000 in
theorem writeString_any (b:Nat) (p buf:Value) (l:List UInt8) (s:ByteArray) (w:World) (h:BAt w b p buf l) (hlen:l.length+s.size≤140737488355328) :
 Calls Tryz.prog 27 #[.pointer (some ⟨b,0,none⟩),.string s] w fun e w'=>e= .returned (.tuple #[.int .i64 s.size,.nilIface])∧Wrote w w' b buf (l++s.data.toList):=by
 obtain ⟨i0,hi,hz0,hz1,hz2⟩:=info_parts infoByte
 have hlt:b<w.heap.size:=(Array.getElem?_eq_some_iff.1 h.1).1
 go_enter Tryz.func27,Tryz.ntmps27
 go_wp2_with (refine (copyCheck_any b p buf l _ h).mono ?_)
 rintro e w1 ⟨rfl,h1,hb1⟩
 have hs1:=hb1.size
 obtain ⟨hbk,-,hown,hne⟩:=h1
 have c0:w1.cell? ⟨b,0,none⟩=some (.pointer (some ⟨b,0,none⟩)):=by rw [Lib.cell_of_heap hbk];rfl
 have c1:w1.cell? ⟨b,1,none⟩=some buf:=by rw [Lib.cell_of_heap hbk];rfl
 go_wp2_with (at_builtin;refine wpList_app_str _ rfl _ _ 22 9 5 i0 rfl Tryz.underlying22 Tryz.underlying9 hi hz0 hz1 hz2 _ _ _ rfl hown s rfl hlen ?_)
 intro v' w2 hown' hgrow hblk
 have hb2:w2.heap[b]?=some (.cells #[.pointer (some ⟨b,0,none⟩),buf] 54 (0,0)):=by
  rw [hgrow.block b (by omega) (fun e=>hne e.symm)]
  exact hbk
 have d0:w2.cell? ⟨b,0,none⟩=some (.pointer (some ⟨b,0,none⟩)):=by rw [Lib.cell_of_heap hb2];rfl
 have d1:w2.cell? ⟨b,1,none⟩=some buf:=by rw [Lib.cell_of_heap hb2];rfl
 have f1:w2.frozen? ⟨b,1,none⟩=false:=Lib.frozen_of_heap hb2 1
 have hown2:w2.ownsRow 0 5 1 v' (l++s.data.toList).length (Lib.byteCells (l++s.data.toList)):=by
  rw [Lib.byteCells_append,List.length_append,← Lib.strCells_eq]
  exact hown'
 have hblk': ∀ k,v'.ownBlock=some k→buf.ownBlock=some k∨w.heap.size≤k:=by
  intro k hk
  rcases hblk with e|e
  · rw [e] at hk
    exact .inl hk
  · rw [e] at hk
    simp only [Option.some.injEq] at hk
    exact .inr (by omega)
 have fin:=wrote_of hb1 hs1 hown hne hb2 hown2 hgrow hblk' hlt
 obtain ⟨ao,n',cap,rfl⟩: ∃ ao n' cap,v'= .slice ao n' cap:=by
  rcases hown'.2 with ⟨hv,_⟩|⟨g,cap,cur,hv,_⟩
  · exact ⟨_,_,_,hv⟩
  · exact ⟨_,_,_,hv⟩
 go_wp2
 go_ret2
 exact ⟨rfl,fin⟩
set_option maxHeartbeats 2000000 in
theorem writeByte_any (b:Nat) (p buf:Value) (l:List UInt8) (x:UInt8) (w:World) (h:BAt w b p buf l) (hlen:l.length+1≤140737488355328) :
 Calls Tryz.prog 81 #[.pointer (some ⟨b,0,none⟩),.int .u8 x.toNat] w fun e w'=>e= .returned .nilIface∧Wrote w w' b buf (l++[x]):=by
 obtain ⟨i0,hi,hz0,hz1,hz2⟩:=info_parts infoByte
 have hlt:b<w.heap.size:=(Array.getElem?_eq_some_iff.1 h.1).1
 go_enter Tryz.func81,Tryz.ntmps81
 go_wp2_with (refine (copyCheck_any b p buf l _ h).mono ?_)
 rintro e w1 ⟨rfl,h1,hb1⟩
 have hs1:=hb1.size
 obtain ⟨hbk,-,hown,hne⟩:=h1
 have c0:w1.cell? ⟨b,0,none⟩=some (.pointer (some ⟨b,0,none⟩)):=by rw [Lib.cell_of_heap hbk];rfl
 have c1:w1.cell? ⟨b,1,none⟩=some buf:=by rw [Lib.cell_of_heap hbk];rfl
 go_wp2_with (at_builtin;refine wpList_append_new w1 rfl _ _ 22 rfl 5 i0 _ 1 1 Tryz.underlying22 hi hz0 hz1 hz2 rfl (by decide) hown rfl [.int .u8 x.toNat] rfl rfl (by intro y hy;simp at hy;subst hy;rfl) (by unfold maxLen;omega) (by omega) (Nat.zero_le _) ?_)
 intro v' w2 hown' hgrow hblk
 have hb2:w2.heap[b]?=some (.cells #[.pointer (some ⟨b,0,none⟩),buf] 54 (0,0)):=by
  rw [hgrow.block b (by omega) (fun e=>hne e.symm)]
  exact hbk
 have d0:w2.cell? ⟨b,0,none⟩=some (.pointer (some ⟨b,0,none⟩)):=by rw [Lib.cell_of_heap hb2];rfl
 have d1:w2.cell? ⟨b,1,none⟩=some buf:=by rw [Lib.cell_of_heap hb2];rfl
 have f1:w2.frozen? ⟨b,1,none⟩=false:=Lib.frozen_of_heap hb2 1
 have hown2:w2.ownsRow 0 5 1 v' (l++[x]).length (Lib.byteCells (l++[x])):=by
  rw [Lib.byteCells_append,List.length_append]
  exact hown'
 have hblk': ∀ k,v'.ownBlock=some k→buf.ownBlock=some k∨w.heap.size≤k:=by
  intro k hk
  rcases hblk with e|e
  · rw [e] at hk
    exact .inl hk
  · rw [e] at hk
    simp only [Option.some.injEq] at hk
    exact .inr (by omega)
 have fin:=wrote_of hb1 hs1 hown hne hb2 hown2 hgrow hblk' hlt
 obtain ⟨ao,n',cap,rfl⟩: ∃ ao n' cap,v'= .slice ao n' cap:=by
  rcases hown'.2 with ⟨hv,_⟩|⟨g,cap,cur,hv,_⟩
  · exact ⟨_,_,_,hv⟩
  · exact ⟨_,_,_,hv⟩
 go_wp2
 go_ret
 exact ⟨rfl,fin⟩
theorem BAtF.of {w:World} {b:Nat} {p buf:Value} {l:List UInt8} (h:BAt w b p buf l):BAtF w b p buf l:=⟨h.1,h.2.1,World.ownsRowF_of h.2.2.1,h.2.2.2⟩
theorem BAtF.kept {w w':World} {b:Nat} {p buf:Value} {l:List UInt8} (h:BAtF w b p buf l) (hk: ∀ k,k<w.heap.size→w'.heap[k]?=w.heap[k]?):BAtF w' b p buf l :=
 ⟨(hk b (Array.getElem?_eq_some_iff.1 h.1).1).trans h.1,h.2.1,ownsRowF_block h.2.2.1 (fun k e=>hk k (h.2.2.1.lt k e).2),h.2.2.2⟩
theorem run_uString (W:World) (q:Option Addr):(Builtin.unsafeString_ #[95,3] 9 #[.pointer q,.int .i64 0]).run Tryz.prog W= .ok (.string .empty) W :=
 Lib.run_unsafeString_none W _ _ _ q
/-- What a reading leaves. -/
def Seen (w w':World) (b:Nat) (p buf:Value) (l:List UInt8):Prop:=BAtF w' b p buf l∧Kp w w' (fun k=>buf.ownBlock=some k)
set_option maxHeartbeats 2000000 in
theorem string_some (b:Nat) (p buf:Value) (l:List UInt8) (w:World) (h:BAtF w b p buf l) (h0:l≠[]) :
 Calls Tryz.prog 31 #[.pointer (some ⟨b,0,none⟩)] w fun e w'=>e= .returned (.string ⟨l.toArray⟩)∧Seen w w' b p buf l:=by
 have hh:=h
 obtain ⟨hbk,hp,hown,hne⟩:=h
 have hl0:l.length≠0:=by simpa using h0
 obtain ⟨g,cap,cur,fz,rfl,hbg,hg,hfz,hnc,hcm,hcs,htake⟩: ∃ g cap cur fz,buf= .slice (some ⟨g,0,none⟩) l.length cap∧0≤g∧w.heap[g]?=some (.cells cur 5 fz)∧fz.2≤l.length * 1∧l.length≤cap∧cap≤maxLen∧cur.size=cap * 1∧cur.toList.take (l.length * 1)=Lib.byteCells l:=by
  rcases hown.2 with ⟨_,hz⟩|⟨g,cap,cur,fz,hv,r⟩
  · exact absurd hz hl0
  · exact ⟨g,cap,cur,fz,hv,r⟩
 have c1:w.drew.cell? ⟨b,1,none⟩=some (.slice (some ⟨g,0,none⟩) l.length cap):=by
  have:w.drew.heap[b]?=some (.cells #[p,.slice (some ⟨g,0,none⟩) l.length cap] 54 (0,0)):=hbk
  rw [Lib.cell_of_heap this];rfl
 have hSD:(Builtin.unsafeSliceData_ #[22] 95 #[.slice (some ⟨g,0,none⟩) l.length cap]).run Tryz.prog w.drew= .ok (.pointer (some ⟨g,0,none⟩)) w.drew :=
  Lib.run_unsafeSliceData_row _ _ _ _ _ _ (by omega)
 have hUS:(Builtin.unsafeString_ #[95,3] 9 #[.pointer (some ⟨g,0,none⟩),.int .i64 l.length]).run Tryz.prog w.drew= .ok (.string ⟨l.toArray⟩) (w.drew.freeze ⟨g,0,none⟩ l.length):=by
  refine Lib.run_unsafeString_row w.drew 95 3 9 5 Tryz.underlying95 cellsByte g cur.size (by have hg':w.drew.heap[g]?=some (.cells cur 5 fz):=hg;simp [World.shape?,hg']) l h0 (by omega) (by unfold maxLen at hcm;omega) ?_
  intro j x hx
  exact hown.cells (g:=g) rfl j (.int .u8 x.toNat) (by simp [Lib.byteCells,hx])
 have hgb:g≠b:=fun e=>hne (by simp [Value.ownBlock,e])
 have hkeep:Seen w (w.drew.freeze ⟨g,0,none⟩ l.length) b p (.slice (some ⟨g,0,none⟩) l.length cap) l:=by
  have hA:Lib.BuilderAtF 54 5 0 b p (Lib.byteCells l) w.drew:=⟨Nat.zero_le _,_,hbk,by rw [Lib.byteCells_length];exact hown,hne⟩
  have hF:=hA.froze (g:=g) (cap:=cap) (by rw [Lib.byteCells_length];exact c1)
  rw [Lib.byteCells_length] at hF
  obtain ⟨_,v,q1,q2,q3⟩:=hF
  have q1':(w.drew.freeze ⟨g,0,none⟩ l.length).heap[b]?=w.heap[b]?:=(Kp.freeze w.drew g l.length).block b (Array.getElem?_eq_some_iff.1 hbk).1 (Ne.symm hgb)
  rw [q1',hbk] at q1
  simp only [Option.some.injEq,Obj.cells.injEq,Array.mk.injEq,List.cons.injEq,true_and,and_true] at q1
  subst q1
  rw [Lib.byteCells_length] at q2
  refine ⟨⟨q1'.trans hbk,hp,q2,hne⟩,((Kp.drew w _).trans (Kp.freeze w.drew g l.length) fun x _ e=>?_)⟩
  simp [Value.ownBlock,e]
 have hmixed:=mixed
 go_enter Tryz.func31,Tryz.ntmps31
 go_wp2
 go_region_o
 all_goals (go_wp2;go_ret;exact ⟨rfl,hkeep⟩)
set_option maxHeartbeats 2000000 in
theorem string_nil (b:Nat) (p:Value) (w:World) (h:BAtF w b p (.slice none 0 0) []) :
 Calls Tryz.prog 31 #[.pointer (some ⟨b,0,none⟩)] w fun e w'=>e= .returned (.string ⟨#[]⟩)∧Seen w w' b p (.slice none 0 0) []:=by
 have hUS:=run_uString
 have c1:w.drew.cell? ⟨b,1,none⟩=some (.slice none 0 0):=by
  have:w.drew.heap[b]?=some (.cells #[p,.slice none 0 0] 54 (0,0)):=h.1
  rw [Lib.cell_of_heap this];rfl
 have hSD:(Builtin.unsafeSliceData_ #[22] 95 #[.slice none 0 0]).run Tryz.prog w.drew= .ok (.pointer none) w.drew:=rfl
 have hmixed:=mixed
 go_enter Tryz.func31,Tryz.ntmps31
 go_wp2
 go_region_o
 all_goals (go_wp2;go_ret;exact ⟨rfl,h,Kp.drew _ _⟩)
set_option maxHeartbeats 2000000 in
theorem string_noroom (b g:Nat) (p:Value) (w:World) (h:BAtF w b p (.slice (some ⟨g,0,none⟩) 0 0) []) (cur:Array Value) (fz:Nat×Nat) (hg:w.heap[g]?=some (.cells cur 5 fz)) :
 Calls Tryz.prog 31 #[.pointer (some ⟨b,0,none⟩)] w fun e w'=>e= .returned (.string ⟨#[]⟩)∧Seen w w' b p (.slice (some ⟨g,0,none⟩) 0 0) []:=by
 have hUS:=run_uString
 have hlt:b<w.heap.size:=(Array.getElem?_eq_some_iff.1 h.1).1
 have c1:w.drew.cell? ⟨b,1,none⟩=some (.slice (some ⟨g,0,none⟩) 0 0):=by
  have:w.drew.heap[b]?=some (.cells #[p,.slice (some ⟨g,0,none⟩) 0 0] 54 (0,0)):=h.1
  rw [Lib.cell_of_heap this];rfl
 have hSD:(Builtin.unsafeSliceData_ #[22] 95 #[.slice (some ⟨g,0,none⟩) 0 0]).run Tryz.prog w.drew= .ok (.pointer (some ⟨w.drew.heap.size,0,none⟩)) (w.drew.alloc (.view ⟨g,0,none⟩ 5)) :=
  Lib.run_unsafeSliceData_zero w.drew _ _ 5 Tryz.underlying95 ⟨g,0,none⟩ 0 (5,cur.size) (by have hg':w.drew.heap[g]?=some (.cells cur 5 fz):=hg;simp [World.shape?,hg'])
 have c2:(w.drew.alloc (.view ⟨g,0,none⟩ 5)).cell? ⟨b,1,none⟩=some (.slice (some ⟨g,0,none⟩) 0 0):=by
  have:(w.drew.alloc (.view ⟨g,0,none⟩ 5)).heap[b]?=_:=(Lib.alloc_old w.drew _ b hlt).trans h.1
  rw [Lib.cell_of_heap this];rfl
 have c3:(w.alloc (.view ⟨g,0,none⟩ 5)).drew.cell? ⟨b,1,none⟩=some (.slice (some ⟨g,0,none⟩) 0 0):=c2
 have c0:w.cell? ⟨b,1,none⟩=some (.slice (some ⟨g,0,none⟩) 0 0):=c1
 have fin:Seen w (w.drew.alloc (.view ⟨g,0,none⟩ 5)) b p (.slice (some ⟨g,0,none⟩) 0 0) [] :=
  ⟨h.kept (fun k hk=>heap_alloc_lt w.drew _ hk),(Kp.drew w _).trans (Kp.alloc _ _ _) fun x _ e=>e⟩
 have hmixed:=mixed
 go_enter Tryz.func31,Tryz.ntmps31
 go_wp2
 go_region_o
 all_goals (go_wp2;go_ret;exact ⟨rfl,fin⟩)
set_option maxHeartbeats 2000000 in
theorem string_room (b g cap:Nat) (p:Value) (w:World) (hc0:cap≠0) (h:BAtF w b p (.slice (some ⟨g,0,none⟩) 0 cap) []) :
 Calls Tryz.prog 31 #[.pointer (some ⟨b,0,none⟩)] w fun e w'=>e= .returned (.string ⟨#[]⟩)∧Seen w w' b p (.slice (some ⟨g,0,none⟩) 0 cap) []:=by
 have hUS:=run_uString
 have c1:w.drew.cell? ⟨b,1,none⟩=some (.slice (some ⟨g,0,none⟩) 0 cap):=by
  have:w.drew.heap[b]?=some (.cells #[p,.slice (some ⟨g,0,none⟩) 0 cap] 54 (0,0)):=h.1
  rw [Lib.cell_of_heap this];rfl
 have hSD:(Builtin.unsafeSliceData_ #[22] 95 #[.slice (some ⟨g,0,none⟩) 0 cap]).run Tryz.prog w.drew= .ok (.pointer (some ⟨g,0,none⟩)) w.drew :=
  Lib.run_unsafeSliceData_row _ _ _ _ _ _ hc0
 clear hc0
 have hmixed:=mixed
 go_enter Tryz.func31,Tryz.ntmps31
 go_wp2
 go_region_o
 all_goals (go_wp2;go_ret;exact ⟨rfl,h,Kp.drew _ _⟩)
theorem string_any (b:Nat) (p buf:Value) (l:List UInt8) (w:World) (h:BAtF w b p buf l) :
 Calls Tryz.prog 31 #[.pointer (some ⟨b,0,none⟩)] w fun e w'=>e= .returned (.string ⟨l.toArray⟩)∧Seen w w' b p buf l:=by
 by_cases h0:l=[]
 · subst h0
   rcases h.2.2.1.2 with ⟨rfl,_⟩|⟨g,cap,cur,fz,rfl,_,hg,_⟩
   · exact string_nil b p w h
   · by_cases hc0:cap=0
     · subst hc0
       exact string_noroom b g p w h cur fz hg
     · exact string_room b g cap p w hc0 h
 · exact string_some b p buf l w h h0
abbrev bld:OwnP:=bldP 54 5
abbrev bldr:OwnP:=bldZ 54 5
@[go_sem] def wstrC:AC:=fun args mem n K=>match args with
 | [.ref i o,.str s]=>(match mem i with
   | some (.gen p [.str l])=>o=0∧p=bld∧l.length+s.length≤140737488355328∧K (.tup [.int .i64 s.length,.raw .nilIface]) (upd mem i (some (.gen p [.str (l++s)]))) n
   | _=>False)
 | _=>False
@[go_sem] def wbyteC:AC:=fun args mem n K=>match args with
 | [.ref i o,.int .u8 x]=>(match mem i with
   | some (.gen p [.str l])=>o=0∧p=bld∧0≤x∧x<256∧l.length+1≤140737488355328∧K (.raw .nilIface) (upd mem i (some (.gen p [.str (l++[UInt8.ofNat x.toNat])]))) n
   | _=>False)
 | _=>False
@[go_sem] def bstrC:AC:=fun args mem n K=>match args with
 | [.ref i o]=>(match mem i with
   | some (.gen p [.str l])=>o=0∧(p=bld∨p=bldr)∧K (.str l) (upd mem i (some (.gen bldr [.str l]))) n
   | _=>False)
 | _=>False
theorem bld_open {c:Cx} {mem:Mem} {i:Nat} {l:List UInt8} (hI:InvM c mem) (hm:mem i=some (.gen bld [.str l])) {v:Value} (hr:Rep (.ref i 0) c v) :
 ∃ b p buf,v= .pointer (some ⟨b,0,none⟩)∧c.ρ i=some v∧BAt c.w b p buf l∧bld.R [.str l] c.w v (fun k=>k=b∨buf.ownBlock=some k):=by
 obtain ⟨_,S,h1,_,_⟩:=hI
 obtain ⟨u,hu,hR⟩:=h1 i _ hm
 have hR0:=hR
 obtain ⟨l',b,buf,p,hd,e1,e2,e3,e4,e5,e6⟩:=hR
 simp only [List.cons.injEq,PV.str.injEq,and_true] at hd
 subst hd e1
 unfold Rep at hr
 obtain ⟨u',b',q1,q2,q3⟩:=hr
 rw [hu] at q1
 cases q1
 simp only [baseOf,Option.some.injEq] at q2
 subst q2 q3
 exact ⟨b,p,buf,rfl,hu,⟨e2,e3,e4,e5⟩,by rw [← e6];exact hR0⟩
theorem bldr_open {c:Cx} {mem:Mem} {i:Nat} {l:List UInt8} {P:OwnP} (hP:P=bld∨P=bldr) (hI:InvM c mem) (hm:mem i=some (.gen P [.str l])) {v:Value} (hr:Rep (.ref i 0) c v) :
 ∃ b p buf,v= .pointer (some ⟨b,0,none⟩)∧c.ρ i=some v∧BAtF c.w b p buf l∧P.R [.str l] c.w v (fun k=>k=b∨buf.ownBlock=some k):=by
 rcases hP with rfl|rfl
 · obtain ⟨b,p,buf,h1,h2,h3,h4⟩:=bld_open hI hm hr
   exact ⟨b,p,buf,h1,h2,.of h3,h4⟩
 · obtain ⟨_,S,h1,_,_⟩:=hI
   obtain ⟨u,hu,hR⟩:=h1 i _ hm
   have hR0:=hR
   obtain ⟨l',b,buf,p,hd,e1,e2,e3,e4,e5,e6⟩:=hR
   simp only [List.cons.injEq,PV.str.injEq,and_true] at hd
   subst hd e1
   unfold Rep at hr
   obtain ⟨u',b',q1,q2,q3⟩:=hr
   rw [hu] at q1
   cases q1
   simp only [baseOf,Option.some.injEq] at q2
   subst q2 q3
   exact ⟨b,p,buf,rfl,hu,⟨e2,e3,e4,e5⟩,by rw [← e6];exact hR0⟩
theorem wstr_ok:ACok Tryz.prog 27 wstrC:=by
 refine ⟨⟨_,Tryz.func27,by kernel_rfl,by kernel_rfl⟩,fun c mem n args vs K hI hn hr hC=>?_⟩
 unfold wstrC at hC
 split at hC
 · rename_i i o s
   split at hC
   · rename_i p l hm
     obtain ⟨rfl,rfl,hlen,hK⟩:=hC
     rw [RepL.cons_iff] at hr
     obtain ⟨v,vs,rfl,hv,hr⟩:=hr
     rw [RepL.cons_iff] at hr
     obtain ⟨u,us,rfl,hu,hr⟩:=hr
     rw [RepL.nil_iff] at hr
     subst hr
     obtain ⟨b,p,buf,rfl,hρ,hB,hR⟩:=bld_open hI hm hv
     unfold Rep at hu
     subst hu
     refine (writeString_any b p buf l ⟨s.toArray⟩ c.w hB hlen).mono ?_
     rintro e w' ⟨rfl,⟨buf',hB',hblk⟩,hk⟩
     have hst:=step_gen (d':=[.str (l++s)]) (S':=fun k=>k=b∨buf'.ownBlock=some k) hI hn hm hρ hR hk ⟨l++s,b,buf',_,rfl,rfl,hB'.1,hB'.2.1,hB'.2.2.1,hB'.2.2.2,rfl⟩
      (fun k h=>h.elim (fun h=> .inl (.inl h)) (fun h=>(hblk k h).imp .inr id))
     refine ⟨_,_,_,_,_,rfl,rfl,hK,hst,?_⟩
     unfold Rep
     refine ⟨_,rfl,?_⟩
     simp only [RepL.cons_iff,RepL.nil_iff]
     exact ⟨_,_,rfl,by unfold Rep;rfl,_,_,rfl,by unfold Rep;rfl,rfl⟩
   · exact hC.elim
 · exact hC.elim
theorem wbyte_ok:ACok Tryz.prog 81 wbyteC:=by
 refine ⟨⟨_,Tryz.func81,by kernel_rfl,by kernel_rfl⟩,fun c mem n args vs K hI hn hr hC=>?_⟩
 unfold wbyteC at hC
 split at hC
 · rename_i i o x
   split at hC
   · rename_i p l hm
     obtain ⟨rfl,rfl,h0,h1,hlen,hK⟩:=hC
     rw [RepL.cons_iff] at hr
     obtain ⟨v,vs,rfl,hv,hr⟩:=hr
     rw [RepL.cons_iff] at hr
     obtain ⟨u,us,rfl,hu,hr⟩:=hr
     rw [RepL.nil_iff] at hr
     subst hr
     obtain ⟨b,p,buf,rfl,hρ,hB,hR⟩:=bld_open hI hm hv
     unfold Rep at hu
     subst hu
     have hx:x=((UInt8.ofNat x.toNat).toNat:Int):=by
      have hlt:x.toNat<256:=by omega
      rw [UInt8.toNat_ofNat_of_lt' hlt]
      omega
     have:=writeByte_any b p buf l (UInt8.ofNat x.toNat) c.w hB hlen
     rw [← hx] at this
     refine this.mono ?_
     rintro e w' ⟨rfl,⟨buf',hB',hblk⟩,hk⟩
     have hst:=step_gen (d':=[.str (l++[UInt8.ofNat x.toNat])]) (S':=fun k=>k=b∨buf'.ownBlock=some k) hI hn hm hρ hR hk ⟨_,b,buf',_,rfl,rfl,hB'.1,hB'.2.1,hB'.2.2.1,hB'.2.2.2,rfl⟩
      (fun k h=>h.elim (fun h=> .inl (.inl h)) (fun h=>(hblk k h).imp .inr id))
     exact ⟨_,_,_,_,_,rfl,rfl,hK,hst,by unfold Rep;rfl⟩
   · exact hC.elim
 · exact hC.elim
/-- .. of another make. -/
theorem step_gen' {c:Cx} {mem:Mem} {n i:Nat} {p p':OwnP} {d d':List PV} {v:Value} {S S':Nat→Prop} {w':World} (hI:InvM c mem) (hn:Names c n) (hm:mem i=some (.gen p d)) (hv:c.ρ i=some v) (hS:p.R d c.w v S)
 (hk:Kp c.w w' S) (hr:p'.R d' w' v S') (hS': ∀ b,S' b→S b∨c.w.heap.size≤b) :
 Step c mem n ⟨w',c.fz,c.ρ⟩ (upd mem i (some (.gen p' d'))) n:=by
 have hmr:MRep c i S (.gen p d):=⟨v,hv,hS⟩
 obtain ⟨h1,h2,h3⟩:=InvM.put (c:=c) (c':=⟨w',c.fz,c.ρ⟩) (mem:=mem) (mem':=upd mem i (some (.gen p' d'))) (j:=i) (S':=S') hI (some i) rfl (fun _ _=>rfl) (.inr rfl)
  (upd_same _ _ _) (fun k hk=> .inl (upd_other _ _ hk)) (fun j hj=>by cases hj;exact ⟨by simp [hm],.inl rfl⟩) (.inl rfl) hk.size
  (fun b hb hs=>hk.block b hb (hs i _ S rfl hm hmr)) (fun _=>⟨v,hv,hr⟩)
  (fun b hb=>(hS' b hb).imp (fun hs=>⟨i,_,S,rfl,hm,hmr,hs⟩) id)
 exact ⟨h1,h2,hk.os,hk.tape,hk.output,hk.size,fun b hb hb'=>hk.block b hb (fun hs=>hb' ⟨i,S,_,hm,hmr,hs⟩),h3,fun b hb=> .inl hb,Nat.le_refl _,fun _ _=>rfl,hn⟩
theorem bstr_ok:ACok Tryz.prog 31 bstrC:=by
 refine ⟨⟨_,Tryz.func31,by kernel_rfl,by kernel_rfl⟩,fun c mem n args vs K hI hn hr hC=>?_⟩
 unfold bstrC at hC
 split at hC
 · rename_i i o
   split at hC
   · rename_i p l hm
     obtain ⟨rfl,hP,hK⟩:=hC
     rw [RepL.cons_iff] at hr
     obtain ⟨v,vs,rfl,hv,hr⟩:=hr
     rw [RepL.nil_iff] at hr
     subst hr
     obtain ⟨b,p',buf,rfl,hρ,hB,hR⟩:=bldr_open hP hI hm hv
     refine (string_any b p' buf l c.w hB).mono ?_
     rintro e w' ⟨rfl,hB',hk⟩
     have hk':Kp c.w w' (fun k=>k=b∨buf.ownBlock=some k):=⟨hk.os,hk.tape,hk.output,hk.size,fun k h1 h2=>hk.block k h1 (fun e=>h2 (.inr e))⟩
     have hst:=step_gen' (p':=bldr) (d':=[.str l]) (S':=fun k=>k=b∨buf.ownBlock=some k) hI hn hm hρ hR hk' ⟨_,b,buf,_,rfl,rfl,hB'.1,hB'.2.1,hB'.2.2.1,hB'.2.2.2,rfl⟩ (fun k h=> .inl h)
     exact ⟨_,_,_,_,_,rfl,rfl,hK,hst,by unfold Rep;rfl⟩
   · exact hC.elim
 · exact hC.elim
end Go.Proofs.YtnbjogilidfkdaaGreat
