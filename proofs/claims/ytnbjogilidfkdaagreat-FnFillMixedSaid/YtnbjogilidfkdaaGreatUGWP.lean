/- The library's variables at a law's first world; a walk of a law out of its contract. -/
import Derived.Test.YtnbjogilidfkdaaGreatUF12
import Derived.Test.YtnbjogilidfkdaaGreatUTY
import Derived.Shelf.Vars
import Derived.ProofKit
import Derived.ChangeArms
import Derived.DataReads
import Derived.OpenShut
import Derived.Test.YtnbjogilidfkdaaGreatUD1


namespace Go.Proofs.YtnbjogilidfkdaaGreat
set_option maxRecDepth 100000
set_option linter.unusedVariables false
set_option linter.unusedSimpArgs false
open Go.RowKit
theorem globW {W:World} (h:W.ShapedOpen Tryz.prog):GlobW W:=by
 intro g hg
 unfold globs at hg
 simp only [List.mem_cons,List.not_mem_nil,or_false] at hg
 first
  | exact hg.elim
  | (subst hg
     obtain ⟨m,hm⟩:=Go.Proofs.cell_of_shapedOpen_int (zero:= #[.int .i64 0]) (t:=3) h (of_decide_eq_true (by kernel_rfl)) (by kernel_rfl) rfl (by kernel_rfl) (by kernel_rfl) Tryz.underlying3
     refine ⟨?_,m,hm⟩
     unfold World.cell? at hm
     refine Nat.lt_of_not_le fun hle=>?_
     rw [Array.getElem?_eq_none (by simpa using hle)] at hm
     cases hm)
/-- A function that comes back to itself is among those that are reached. -/
theorem rec_of {P:Program} {f g h:FuncId} {fn:Func} (h1:(P.closure f).contains g=true) (h2:P.funcs[g]?=some fn) (h3:(P.leadsTo fn).contains h=true) (h4:(P.closure h).contains g=true):P.recurses f=true:=by
 unfold Program.recurses
 rw [Bool.or_eq_true,List.any_eq_true]
 refine .inr ⟨g,List.contains_iff_mem.1 h1,?_⟩
 rw [h2,List.any_eq_true]
 exact ⟨h,List.contains_iff_mem.1 h3,h4⟩
theorem true_of_pure {W:World} {f:FuncId} {vs:Array Value} (h:Calls Tryz.prog f vs W fun e W'=> ∃ v,e= .returned v∧Rep (.bool true) ⟨W',fun b=>b<W'.heap.size,fun _=>none⟩ v∧Below W.heap.size W W') :
 Calls Tryz.prog f vs W fun e W'=>e= .returned (.bool true)∧Below W.heap.size W W':=by
 refine h.mono ?_
 rintro e w' ⟨v,rfl,hr,hb⟩
 unfold Rep at hr
 subst hr
 exact ⟨rfl,hb⟩
end Go.Proofs.YtnbjogilidfkdaaGreat

/- The head words of the program, read once: what a large seat's cells ask. -/

namespace Go.Proofs.YtnbjogilidfkdaaGreat
set_option maxRecDepth 100000
set_option linter.unusedVariables false
set_option linter.unusedSimpArgs false
def hdCs (l : List Nat) : List Char := l.map Char.ofNat
theorem ws_app (w r : List Char) (h : w.all (fun c => c != Char.ofNat 32) = true) : wordsSigns (w ++ Char.ofNat 32 :: r) = w :: wordsSigns r := by
  induction w with
  | nil => rfl
  | cons c w ih =>
    rw [List.all_cons, Bool.and_eq_true] at h
    have hc : c ≠ Char.ofNat 32 := bne_iff_ne.mp h.1
    rw [List.cons_append, wordsSigns, ih h.2]
    exact hc
theorem initIs : Tryz.prog.initOrder = String.ofList (hdCs [104, 97, 114, 110, 101, 115, 115] ++ Char.ofNat 32 :: (hdCs [51,49,48,55,53,48,98,97,98,48,97,49,55,48,51,50,57,51,56,100,53,52,51,99,54,49,99,51,98,52,53,101,99,55,55,48,99,56,48,54,98,98,98,48,53,51,50,102,99,57,56,51,50,100,48,51,55,50,102,57,98,52,97,51] ++ Char.ofNat 32 :: (hdCs [99, 117, 116] ++ Char.ofNat 32 :: hdCs [97,116,32,108,111,111,112,46,101,120,97,109,112,108,101,47,116,101,109,112,108,97,116,101,101,115,99,97,112,101,114,47,108,97,119,115,46,70,110,76,111,110,103,70,105,108,108,32,108,111,111,112,46,101,120,97,109,112,108,101,47,116,101,109,112,108,97,116,101,101,115,99,97,112,101,114,47,108,97,119,115,46,70,110,69,120,97,99,116,70,105,108,108,77,105,120,101,100,32,108,111,111,112,46,101,120,97,109,112,108,101,47,116,101,109,112,108,97,116,101,101,115,99,97,112,101,114,47,108,97,119,115,46,70,110,70,105,108,108,77,105,120,101,100]))) := by kernel_rfl
theorem bm (s : List Char) (h : isSumSigns s = true) (ws : List (List Char)) : behindMainWord (hdCs [104, 97, 114, 110, 101, 115, 115] :: s :: ws) = ws := by
  unfold behindMainWord
  dsimp only
  rw [if_pos]
  rw [h, show (hdCs [104, 97, 114, 110, 101, 115, 115] == "harness".toList) = true by decide +kernel]
  rfl
theorem headWords : ∃ ws, behindMainWord (wordsSigns Tryz.prog.initOrder.toList) = hdCs [99, 117, 116] :: ws := by
  rw [initIs, String.toList_ofList, ws_app _ _ (by decide +kernel), ws_app _ _ (by decide +kernel), ws_app _ _ (by decide +kernel)]
  exact ⟨_, bm _ (by decide +kernel) _⟩
theorem strip_cut (ws : List (List Char)) : stripLifts liftWords (hdCs [99, 117, 116] :: ws) = ([], hdCs [99, 117, 116] :: ws) := by kernel_rfl
section
variable {P : Program} {ws : List (List Char)} (h : behindMainWord (wordsSigns P.initOrder.toList) = hdCs [99, 117, 116] :: ws)
include h
theorem make_cut : P.make = some .cut := by
  unfold Program.make
  rw [h]
  dsimp only
  rw [if_neg (by decide +kernel), if_pos (by rw [show (hdCs [99, 117, 116] == "cut".toList) = true by decide +kernel]; rfl)]
theorem mayEnter_cut (h1 : P.laysLater = false) (h2 : P.bearsReflect = false) (h3 : P.doorFits [] = true) : P.mayEnter = true := by
  unfold Program.mayEnter
  rw [h]
  dsimp only
  rw [strip_cut]
  dsimp only
  rw [h1, h2, h3, show (List.head? (hdCs [99, 117, 116] :: ws) == some "cut".toList) = true by simp only [List.head?_cons]; decide +kernel]
  simp
theorem lifts_cut : P.liftsFinal = false := by
  unfold Program.liftsFinal Program.headLifts
  rw [h]
  dsimp only
  rw [strip_cut]
  dsimp only
  rw [show (List.head? (hdCs [99, 117, 116] :: ws) == some "carried".toList) = false by simp only [List.head?_cons]; decide +kernel]
  split <;> rfl
end
theorem makeIs : Tryz.prog.make = some .cut := by obtain ⟨ws, h⟩ := headWords; exact make_cut h
theorem mayEnterIs : Tryz.prog.mayEnter = true := by obtain ⟨ws, h⟩ := headWords; exact mayEnter_cut h (by kernel_rfl) (by kernel_rfl) (by kernel_rfl)
theorem liftsIs : Tryz.prog.liftsFinal = false := by obtain ⟨ws, h⟩ := headWords; exact lifts_cut h
end Go.Proofs.YtnbjogilidfkdaaGreat

/- Arguments that are plain data: opened into abstract values, whatever their types. -/

namespace Go.Proofs.YtnbjogilidfkdaaGreat
set_option maxRecDepth 100000
set_option linter.unusedVariables false
set_option linter.unusedSimpArgs false
open Go.RowKit
/-- Of type t, as the cells of a value. -/
def okT (P:Program):Nat→TypeId→List PV→Prop
 | 0,_,_=>False
 | n+1,t,us=>match P.underlying t with
   | some .bool=> ∃ b,us=[.bool b]
   | some (.int k)=> ∃ i,us=[.int k i]∧(Lit.int k i).wf=true
   | some .string=> ∃ l,us=[.str l]∧l.length≤9223372036854775807
   | some (.slice e)=> ∃ es,us=[.seq es]∧es.length≤9223372036854775807∧ ∀ x ∈ es,okT P n e x
   | some (.struct fs)=>okF (okT P n) fs.toList us
   | _=>False
where okF (ok:TypeId→List PV→Prop):List Field→List PV→Prop
 | [],us=>us=[]
 | f::fs,us=> ∃ a b,us=a++b∧ok f.type a∧okF ok fs b
def tileB (P:Program):List Field→Nat→Nat→Bool
 | [],o,n=>o == n
 | f::fs,o,n=>f.offset == o && tileB P fs (o+P.cellsOf f.type) n
/-- Plain data: closed under what lies within. -/
def plainB (P:Program) (S:List TypeId):Bool:=S.all fun t=>match P.underlying t with
 | some .bool|some (.int _)|some .string=>true
 | some (.slice e)=>S.contains e && Nat.blt 0 (P.cellsOf e)
 | some (.struct fs)=>(fs.toList.all fun f=>S.contains f.type) && tileB P fs.toList 0 (P.cellsOf t)
 | _=>false
variable {H:Type} {enc:TypeId×Value→H} {P:Program} {w:World} {spare:Nat→Bool} {held:Bool}
theorem okF_open {S:List TypeId} {c:Cx} {ok:TypeId→List PV→Prop} {tr:TypeId→List Value→Prop} (ih: ∀ t ∈ S,∀ cs,tr t cs→ ∃ us,ok t us∧(∀ u ∈ us,u.isCell=true)∧RepL us c cs) {cs:List Value} :
 ∀ (fs:List Field) (o:Nat),(fs.all fun f=>S.contains f.type)=true→tileB P fs o cs.length=true→(∀ f ∈ fs,tr f.type ((cs.drop f.offset).take (P.cellsOf f.type))) →
   ∃ us,okT.okF ok fs us∧(∀ u ∈ us,u.isCell=true)∧RepL us c (cs.drop o)
 | [],o,_,ht,_=>by
   simp only [tileB,beq_iff_eq] at ht
   subst ht
   exact ⟨[],rfl,by simp,by simp [RepL.nil_iff]⟩
 | f::fs,o,hS,ht,htr=>by
   simp only [tileB,Bool.and_eq_true,beq_iff_eq,List.all_cons] at ht hS
   obtain ⟨rfl,ht⟩:=ht
   obtain ⟨a,ha,hac,har⟩:=ih f.type (by simpa using hS.1) _ (htr f (by simp))
   obtain ⟨b,hb,hbc,hbr⟩:=okF_open ih fs _ hS.2 ht (fun g hg=>htr g (by simp [hg]))
   refine ⟨a++b,⟨a,b,rfl,ha,hb⟩,fun u hu=>?_,?_⟩
   · rcases List.mem_append.1 hu with h|h
     · exact hac u h
     · exact hbc u h
   · have:=har.append hbr
     rwa [← List.drop_drop,List.take_append_drop] at this
theorem els_open {c:Cx} {ok:List PV→Prop} {tr:List Value→Prop} {s b o:Nat} (ih: ∀ cs,tr cs→ ∃ us,ok us∧(∀ u ∈ us,u.isCell=true)∧RepL us c cs) :
 ∀ (n:Nat),(∀ i,i<n→ ∃ cs,cs.length=s∧(∀ j,j<s→c.w.cell? ⟨b,o+i * s+j,none⟩=cs[j]?)∧tr cs)→ ∃ es:List (List PV),es.length=n∧(∀ x ∈ es,ok x)∧RepE es c s b o
 | 0,_=>⟨[],rfl,by simp,RepE.nil⟩
 | n+1,h=>by
   obtain ⟨es,hl,hok,hr⟩:=els_open ih n (fun i hi=>h i (by omega))
   obtain ⟨cs,hcl,hcell,htr⟩:=h n (by omega)
   obtain ⟨us,hu,huc,hur⟩:=ih cs htr
   have hul:us.length=s:=by rw [← hur.length,hcl]
   refine ⟨es++[us],by simp [hl],fun x hx=>?_,?_⟩
   · rcases List.mem_append.1 hx with h|h
     · exact hok x h
     · obtain rfl:=List.mem_singleton.1 h
       exact hu
   · rw [RepE.flat] at hr ⊢
     refine ⟨fun x hx=>?_,?_⟩
     · rcases List.mem_append.1 hx with h|h
       · exact hr.1 x h
       · obtain rfl:=List.mem_singleton.1 h
         exact hul
     · rw [List.flatten_append,RepA.append]
       refine ⟨hr.2,?_⟩
       have hfl:es.flatten.length=n * s:=by
        rw [List.length_flatten,show es.map List.length=List.replicate n s by
         rw [List.eq_replicate_iff]
         refine ⟨by simp [hl],fun b hb=>?_⟩
         obtain ⟨x,hx,rfl⟩:=List.mem_map.1 hb
         exact hr.1 x hx]
        simp
       rw [hfl]
       simp only [List.flatten_cons,List.flatten_nil,List.append_nil]
       refine RepA.of_vals hur (fun j v hv=>?_) huc
       have hj:j<s:=by
        have:=(List.getElem?_eq_some_iff.1 hv).1
        omega
       rw [hcell j hj,hv]
/-- An argument of plain data, opened. -/
theorem open_plain {S:List TypeId} (hS:plainB P S=true): ∀ (n:Nat) (t:TypeId),t ∈ S→ ∀ (cs:List Value) (x:DataW H×List MemPlace),DataW.trod enc P w 0 spare held n t cs=some x →
 ∃ us,okT P n t us∧(∀ u ∈ us,u.isCell=true)∧RepL us ⟨w,fun b=>b<w.heap.size,fun _=>none⟩ cs
 | 0,t,_,cs,x,h=>by simp [DataW.trod] at h
 | n+1,t,ht,cs,x,h=>by
   have hp:=List.all_eq_true.1 hS t ht
   cases hu:P.underlying t with
   | none=>rw [hu] at hp;simp at hp
   | some d =>
   rw [hu] at hp
   cases d with
   | bool =>
     obtain ⟨b,rfl,_⟩:=DataW.trod_bool hu h
     exact ⟨[.bool b],by unfold okT;rw [hu];exact ⟨b,rfl⟩,by simp [PV.isCell],by simp [RepL.cons_iff,RepL.nil_iff,Rep]⟩
   | int k =>
     obtain ⟨i,rfl,_,hw⟩:=DataW.trod_int hu h
     exact ⟨[.int k i],by unfold okT;rw [hu];exact ⟨i,rfl,hw⟩,by simp [PV.isCell],by simp [RepL.cons_iff,RepL.nil_iff,Rep]⟩
   | string =>
     obtain ⟨x,rfl,_,hw⟩:=DataW.trod_string hu h
     exact ⟨[.str x.data.toList],by unfold okT;rw [hu];exact ⟨_,rfl,by simpa [maxLen] using hw⟩,by simp [PV.isCell],by simp [RepL.cons_iff,RepL.nil_iff,Rep]⟩
   | slice e =>
     simp only [Bool.and_eq_true,List.contains_iff_mem,Nat.blt_eq] at hp
     obtain ⟨he,hpos⟩:=hp
     rcases DataW.trod_slice hu h with ⟨rfl,_⟩|⟨a,len,cap,elems,rest,m,hm,rfl,rfl,_,hl,hcap,hlen,hel,_,_⟩
     · exact ⟨[.seq []],by unfold okT;rw [hu];exact ⟨[],rfl,by simp,by simp⟩,by simp [PV.isCell],by rw [RepL.cons_iff];refine ⟨_,_,rfl,?_,by simp [RepL.nil_iff]⟩;unfold Rep;exact ⟨none,0,rfl,by simp,by simp,.inl rfl⟩⟩
     · obtain rfl:m=n:=by omega
       have hget: ∀ i,i<len→ ∃ cs' y,w.cells? 0 (a.add (i * P.cellsOf e)) (P.cellsOf e)=some cs'∧DataW.trod enc P w 0 spare held m e cs'=some y:=by
        intro i hi
        have h1:=hel i hi
        rw [List.getElem?_eq_getElem (by omega)] at h1
        cases hc:w.cells? 0 (a.add (i * P.cellsOf e)) (P.cellsOf e) with
        | none=>rw [hc] at h1;cases h1
        | some cs'=>rw [hc] at h1;exact ⟨cs',_,rfl,h1⟩
       by_cases h0:len=0
       · subst h0
         refine ⟨[.seq []],by unfold okT;rw [hu];exact ⟨[],rfl,by simp,by simp⟩,by simp [PV.isCell],?_⟩
         rw [RepL.cons_iff]
         refine ⟨_,_,rfl,?_,by simp [RepL.nil_iff]⟩
         unfold Rep
         exact ⟨some a,cap,rfl,by simp,hcap,.inl rfl⟩
       · obtain ⟨b,o,spot⟩:=a
         obtain ⟨cs0,y0,hc0,_⟩:=hget 0 (by omega)
         obtain ⟨_,hcl0,hat0⟩:=World.cells?_some hc0
         have hx0:=hat0 0 hpos
         rw [List.getElem?_eq_getElem (by omega)] at hx0
         have hsp:spot=none:=by simpa [Addr.add] using World.cell?_spot hx0
         subst hsp
         obtain ⟨es,hel',heok,her⟩:=els_open (c:=⟨w,fun b=>b<w.heap.size,fun _=>none⟩) (ok:=okT P m e) (tr:=fun cs=> ∃ y,DataW.trod enc P w 0 spare held m e cs=some y) (s:=P.cellsOf e) (b:=b) (o:=o)
          (fun cs ⟨y,hy⟩=>open_plain hS m e he cs y hy) len (fun i hi=>by
            obtain ⟨cs',y,hc,hy⟩:=hget i hi
            obtain ⟨_,hcl,hat⟩:=World.cells?_some hc
            refine ⟨cs',hcl,fun j hj=>?_,y,hy⟩
            have:=hat j hj
            rwa [Go.WideShapes.add_plain,Go.WideShapes.add_plain] at this)
         refine ⟨[.seq es],by unfold okT;rw [hu];exact ⟨es,rfl,by rw [hel'];exact Nat.le_trans hl (by simpa [maxLen] using hcap),heok⟩,by simp [PV.isCell],?_⟩
         rw [RepL.cons_iff]
         refine ⟨_,_,rfl,?_,by simp [RepL.nil_iff]⟩
         unfold Rep
         refine ⟨some ⟨b,o,none⟩,cap,by rw [hel'],by omega,hcap,.inr ⟨b,o,_,rfl,?_,her⟩⟩
         show b<w.heap.size
         have:w.cell? (⟨b,o,none⟩:Addr)=some cs0[0]:=by simpa [Addr.add] using hx0
         unfold World.cell? at this
         by_cases hlt:b<w.heap.size
         · exact hlt
         · rw [Array.getElem?_eq_none (by simpa using hlt)] at this
           cases this
   | struct fs =>
     simp only [Bool.and_eq_true] at hp
     obtain ⟨xs,m,hm,_,hcl,hxl,hf⟩:=DataW.trod_struct hu h
     obtain rfl:m=n:=by omega
     obtain ⟨us,h1,h2,h3⟩:=okF_open (S:=S) (c:=⟨w,fun b=>b<w.heap.size,fun _=>none⟩) (ok:=okT P m) (tr:=fun t cs=> ∃ y,DataW.trod enc P w 0 spare held m t cs=some y)
      (fun t ht cs ⟨y,hy⟩=>open_plain hS m t ht cs y hy) (cs:=cs) fs.toList 0 hp.1 (by rw [hcl];exact hp.2) (fun f hfm=>by
        obtain ⟨i,hi,rfl⟩:=List.getElem_of_mem hfm
        have:=hf i (fs.toList[i]) (by simp)
        rw [this,List.getElem?_eq_getElem (by simpa [hxl] using hi)]
        exact ⟨_,rfl⟩)
     exact ⟨us,by unfold okT;rw [hu];exact h1,h2,by simpa using h3⟩
   | _=>simp at hp
end Go.Proofs.YtnbjogilidfkdaaGreat

/- Arguments of a law: bytes, lists of parts, opened. -/

namespace Go.Proofs.YtnbjogilidfkdaaGreat
set_option maxRecDepth 100000
set_option linter.unusedVariables false
set_option linter.unusedSimpArgs false
open Go.RowKit
def closeU (P:Program):Nat→List TypeId→List TypeId
 | 0,S=>S
 | n+1,S=>closeU P n (S++S.flatMap fun t=>match P.underlying t with
   | some (.slice e)=>[e]
   | some (.struct fs)=>fs.toList.map (·.type)
   | _=>[]).eraseDups
noncomputable def setU (t:TypeId):List TypeId:=closeU Tryz.prog 4 [t]
theorem okU_int {P:Program} {n:Nat} {t:TypeId} {us:List PV} {k:IntKind} (hu:P.underlying t=some (.int k)) (h:okT P n t us): ∃ i,us=[.int k i]∧(Lit.int k i).wf=true:=by
 cases n with
 | zero=>exact h.elim
 | succ n=>unfold okT at h;rw [hu] at h;exact h
theorem okU_slice {P:Program} {n:Nat} {t e:TypeId} {us:List PV} (hu:P.underlying t=some (.slice e)) (h:okT P n t us): ∃ es m,us=[.seq es]∧es.length≤9223372036854775807∧ ∀ x ∈ es,okT P m e x:=by
 cases n with
 | zero=>exact h.elim
 | succ n =>
   unfold okT at h;rw [hu] at h
   obtain ⟨es,h1,h2,h3⟩:=h
   exact ⟨es,n,h1,h2,h3⟩
/-- One cell: what stands in it. -/
theorem repU_one {u:PV} {c:Cx} {v:Value} (h:RepL [u] c v.cells.toList) (hv:v.cells= #[v]):Rep u c v:=by
 rw [hv,RepL.cons_iff] at h
 obtain ⟨x,xs,e,h1,h2⟩:=h
 simp at e
 rw [e.1]
 exact h1
theorem map_of {α:Type} {enc:α→List PV} {ok:List PV→Prop} {es:List (List PV)} (h: ∀ e ∈ es,ok e) (h1: ∀ e,ok e→ ∃ x,e=enc x): ∃ xs:List α,es=xs.map enc:=by
 induction es with
 | nil=>exact ⟨[],rfl⟩
 | cons e es ih =>
   obtain ⟨xs,rfl⟩:=ih fun x hx=>h x (by simp [hx])
   obtain ⟨x,rfl⟩:=h1 e (h e (by simp))
   exact ⟨x::xs,rfl⟩
def Arg_bytes (w:World) (v:Value):Prop:= ∃ xs:Bs,xs.length≤9223372036854775807∧Rep (.seq (xs.map bc)) ⟨w,fun b=>b<w.heap.size,fun _=>none⟩ v
theorem wf_u8 {i:Int} (h:(Lit.int .u8 i).wf=true):0≤i∧i<256:=by
 have h1:IntKind.u8.min=0:=by decide
 have h2:IntKind.u8.max=255:=by decide
 simp only [Lit.wf,Bool.and_eq_true,decide_eq_true_eq,h1,h2] at h
 omega
theorem setB_plain:plainB Tryz.prog (setU 22)=true:=by kernel_rfl
theorem open_bytes {H:Type} {enc:TypeId×Value→H} {w:World} {spare:Nat→Bool} {held:Bool} {n:Nat} {a:Option Addr} {l c:Nat} {x:DataW H×List MemPlace}
 (h:DataW.trod enc Tryz.prog w 0 spare held n 22 (Value.slice a l c).cells.toList=some x):Arg_bytes w (.slice a l c):=by
 obtain ⟨us,h1,_,h3⟩:=open_plain setB_plain n _ (List.contains_iff_mem.1 (show (setU 22).contains 22=true by kernel_rfl)) _ _ h
 obtain ⟨es,m,rfl,hl,hall⟩:=okU_slice Tryz.underlying22 h1
 obtain ⟨xs,rfl⟩:=map_of (enc:=bc) hall fun e he=>by
  obtain ⟨i,rfl,hi⟩:=okU_int Tryz.underlying5 he
  obtain ⟨b,rfl⟩:=byte_of (wf_u8 hi).1 (wf_u8 hi).2
  exact ⟨b,rfl⟩
 exact ⟨xs,by simpa using hl,repU_one h3 rfl⟩
end Go.Proofs.YtnbjogilidfkdaaGreat
