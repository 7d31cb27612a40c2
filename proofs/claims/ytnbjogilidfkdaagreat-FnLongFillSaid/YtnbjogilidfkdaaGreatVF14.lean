/- Arguments that are plain data: opened into abstract values, whatever their types. -/
import Derived.Test.YtnbjogilidfkdaaGreatVF12
import Derived.ChangeArms
import Derived.DataReads
import Derived.OpenShut

namespace Go.Proofs.YtnbjogilidfkdaaGreat
set_option maxRecDepth 100000
set_option linter.unusedVariables false
set_option linter.unusedSimpArgs false
open Go.RowKit
/-- Of type t, as the cells of a value. -/
def okT (P:Program):Nat→TypeId→List PV→Prop
 | 0,_,_=>False
 | n+1,t,us=>match P.underlying t with
   | some .bool=> ∃ b,us=[.bool b]
   | some (.int k)=> ∃ i,us=[.int k i]∧(Lit.int k i).wf=true
   | some .string=> ∃ l,us=[.str l]∧l.length≤9223372036854775807
   | some (.slice e)=> ∃ es,us=[.seq es]∧es.length≤9223372036854775807∧ ∀ x ∈ es,okT P n e x
   | some (.struct fs)=>okF (okT P n) fs.toList us
   | _=>False
where okF (ok:TypeId→List PV→Prop):List Field→List PV→Prop
 | [],us=>us=[]
 | f::fs,us=> ∃ a b,us=a++b∧ok f.type a∧okF ok fs b
def tileB (P:Program):List Field→Nat→Nat→Bool
 | [],o,n=>o == n
 | f::fs,o,n=>f.offset == o && tileB P fs (o+P.cellsOf f.type) n
/-- Plain data: closed under what lies within. -/
def plainB (P:Program) (S:List TypeId):Bool:=S.all fun t=>match P.underlying t with
 | some .bool|some (.int _)|some .string=>true
 | some (.slice e)=>S.contains e && Nat.blt 0 (P.cellsOf e)
 | some (.struct fs)=>(fs.toList.all fun f=>S.contains f.type) && tileB P fs.toList 0 (P.cellsOf t)
 | _=>false
variable {H:Type} {enc:TypeId×Value→H} {P:Program} {w:World} {spare:Nat→Bool} {held:Bool}
theorem okF_open {S:List TypeId} {c:Cx} {ok:TypeId→List PV→Prop} {tr:TypeId→List Value→Prop} (ih: ∀ t ∈ S,∀ cs,tr t cs→ ∃ us,ok t us∧(∀ u ∈ us,u.isCell=true)∧RepL us c cs) {cs:List Value} :
 ∀ (fs:List Field) (o:Nat),(fs.all fun f=>S.contains f.type)=true→tileB P fs o cs.length=true→(∀ f ∈ fs,tr f.type ((cs.drop f.offset).take (P.cellsOf f.type))) →
   ∃ us,okT.okF ok fs us∧(∀ u ∈ us,u.isCell=true)∧RepL us c (cs.drop o)
 | [],o,_,ht,_=>by
   simp only [tileB,beq_iff_eq] at ht
   subst ht
   exact ⟨[],rfl,by simp,by simp [RepL.nil_iff]⟩
 | f::fs,o,hS,ht,htr=>by
   simp only [tileB,Bool.and_eq_true,beq_iff_eq,List.all_cons] at ht hS
   obtain ⟨rfl,ht⟩:=ht
   obtain ⟨a,ha,hac,har⟩:=ih f.type (by simpa using hS.1) _ (htr f (by simp))
   obtain ⟨b,hb,hbc,hbr⟩:=okF_open ih fs _ hS.2 ht (fun g hg=>htr g (by simp [hg]))
   refine ⟨a++b,⟨a,b,rfl,ha,hb⟩,fun u hu=>?_,?_⟩
   · rcases List.mem_append.1 hu with h|h
     · exact hac u h
     · exact hbc u h
   · have:=har.append hbr
     rwa [← List.drop_drop,List.take_append_drop] at this
theorem els_open {c:Cx} {ok:List PV→Prop} {tr:List Value→Prop} {s b o:Nat} (ih: ∀ cs,tr cs→ ∃ us,ok us∧(∀ u ∈ us,u.isCell=true)∧RepL us c cs) :
 ∀ (n:Nat),(∀ i,i<n→ ∃ cs,cs.length=s∧(∀ j,j<s→c.w.cell? ⟨b,o+i * s+j,none⟩=cs[j]?)∧tr cs)→ ∃ es:List (List PV),es.length=n∧(∀ x ∈ es,ok x)∧RepE es c s b o
 | 0,_=>⟨[],rfl,by simp,RepE.nil⟩
 | n+1,h=>by
   obtain ⟨es,hl,hok,hr⟩:=els_open ih n (fun i hi=>h i (by omega))
   obtain ⟨cs,hcl,hcell,htr⟩:=h n (by omega)
   obtain ⟨us,hu,huc,hur⟩:=ih cs htr
   have hul:us.length=s:=by rw [← hur.length,hcl]
   refine ⟨es++[us],by simp [hl],fun x hx=>?_,?_⟩
   · rcases List.mem_append.1 hx with h|h
     · exact hok x h
     · obtain rfl:=List.mem_singleton.1 h
       exact hu
   · rw [RepE.flat] at hr ⊢
     refine ⟨fun x hx=>?_,?_⟩
     · rcases List.mem_append.1 hx with h|h
       · exact hr.1 x h
       · obtain rfl:=List.mem_singleton.1 h
         exact hul
     · rw [List.flatten_append,RepA.append]
       refine ⟨hr.2,?_⟩
       have hfl:es.flatten.length=n * s:=by
        rw [List.length_flatten,show es.map List.length=List.replicate n s by
         rw [List.eq_replicate_iff]
         refine ⟨by simp [hl],fun b hb=>?_⟩
         obtain ⟨x,hx,rfl⟩:=List.mem_map.1 hb
         exact hr.1 x hx]
        simp
       rw [hfl]
       simp only [List.flatten_cons,List.flatten_nil,List.append_nil]
       refine RepA.of_vals hur (fun j v hv=>?_) huc
       have hj:j<s:=by
        have:=(List.getElem?_eq_some_iff.1 hv).1
        omega
       rw [hcell j hj,hv]
/-- An argument of plain data, opened. -/
theorem open_plain {S:List TypeId} (hS:plainB P S=true): ∀ (n:Nat) (t:TypeId),t ∈ S→ ∀ (cs:List Value) (x:DataW H×List MemPlace),DataW.trod enc P w 0 spare held n t cs=some x →
 ∃ us,okT P n t us∧(∀ u ∈ us,u.isCell=true)∧RepL us ⟨w,fun b=>b<w.heap.size,fun _=>none⟩ cs
 | 0,t,_,cs,x,h=>by simp [DataW.trod] at h
 | n+1,t,ht,cs,x,h=>by
   have hp:=List.all_eq_true.1 hS t ht
   cases hu:P.underlying t with
   | none=>rw [hu] at hp;simp at hp
   | some d =>
   rw [hu] at hp
   cases d with
   | bool =>
     obtain ⟨b,rfl,_⟩:=DataW.trod_bool hu h
     exact ⟨[.bool b],by unfold okT;rw [hu];exact ⟨b,rfl⟩,by simp [PV.isCell],by simp [RepL.cons_iff,RepL.nil_iff,Rep]⟩
   | int k =>
     obtain ⟨i,rfl,_,hw⟩:=DataW.trod_int hu h
     exact ⟨[.int k i],by unfold okT;rw [hu];exact ⟨i,rfl,hw⟩,by simp [PV.isCell],by simp [RepL.cons_iff,RepL.nil_iff,Rep]⟩
   | string =>
     obtain ⟨x,rfl,_,hw⟩:=DataW.trod_string hu h
     exact ⟨[.str x.data.toList],by unfold okT;rw [hu];exact ⟨_,rfl,by simpa [maxLen] using hw⟩,by simp [PV.isCell],by simp [RepL.cons_iff,RepL.nil_iff,Rep]⟩
   | slice e =>
     simp only [Bool.and_eq_true,List.contains_iff_mem,Nat.blt_eq] at hp
     obtain ⟨he,hpos⟩:=hp
     rcases DataW.trod_slice hu h with ⟨rfl,_⟩|⟨a,len,cap,elems,rest,m,hm,rfl,rfl,_,hl,hcap,hlen,hel,_,_⟩
     · exact ⟨[.seq []],by unfold okT;rw [hu];exact ⟨[],rfl,by simp,by simp⟩,by simp [PV.isCell],by rw [RepL.cons_iff];refine ⟨_,_,rfl,?_,by simp [RepL.nil_iff]⟩;unfold Rep;exact ⟨none,0,rfl,by simp,by simp,.inl rfl⟩⟩
     · obtain rfl:m=n:=by omega
       have hget: ∀ i,i<len→ ∃ cs' y,w.cells? 0 (a.add (i * P.cellsOf e)) (P.cellsOf e)=some cs'∧DataW.trod enc P w 0 spare held m e cs'=some y:=by
        intro i hi
        have h1:=hel i hi
        rw [List.getElem?_eq_getElem (by omega)] at h1
        cases hc:w.cells? 0 (a.add (i * P.cellsOf e)) (P.cellsOf e) with
        | none=>rw [hc] at h1;cases h1
        | some cs'=>rw [hc] at h1;exact ⟨cs',_,rfl,h1⟩
       by_cases h0:len=0
       · subst h0
         refine ⟨[.seq []],by unfold okT;rw [hu];exact ⟨[],rfl,by simp,by simp⟩,by simp [PV.isCell],?_⟩
         rw [RepL.cons_iff]
         refine ⟨_,_,rfl,?_,by simp [RepL.nil_iff]⟩
         unfold Rep
         exact ⟨some a,cap,rfl,by simp,hcap,.inl rfl⟩
       · obtain ⟨b,o,spot⟩:=a
         obtain ⟨cs0,y0,hc0,_⟩:=hget 0 (by omega)
         obtain ⟨_,hcl0,hat0⟩:=World.cells?_some hc0
         have hx0:=hat0 0 hpos
         rw [List.getElem?_eq_getElem (by omega)] at hx0
         have hsp:spot=none:=by simpa [Addr.add] using World.cell?_spot hx0
         subst hsp
         obtain ⟨es,hel',heok,her⟩:=els_open (c:=⟨w,fun b=>b<w.heap.size,fun _=>none⟩) (ok:=okT P m e) (tr:=fun cs=> ∃ y,DataW.trod enc P w 0 spare held m e cs=some y) (s:=P.cellsOf e) (b:=b) (o:=o)
          (fun cs ⟨y,hy⟩=>open_plain hS m e he cs y hy) len (fun i hi=>by
            obtain ⟨cs',y,hc,hy⟩:=hget i hi
            obtain ⟨_,hcl,hat⟩:=World.cells?_some hc
            refine ⟨cs',hcl,fun j hj=>?_,y,hy⟩
            have:=hat j hj
            rwa [Go.WideShapes.add_plain,Go.WideShapes.add_plain] at this)
         refine ⟨[.seq es],by unfold okT;rw [hu];exact ⟨es,rfl,by rw [hel'];exact Nat.le_trans hl (by simpa [maxLen] using hcap),heok⟩,by simp [PV.isCell],?_⟩
         rw [RepL.cons_iff]
         refine ⟨_,_,rfl,?_,by simp [RepL.nil_iff]⟩
         unfold Rep
         refine ⟨some ⟨b,o,none⟩,cap,by rw [hel'],by omega,hcap,.inr ⟨b,o,_,rfl,?_,her⟩⟩
         show b<w.heap.size
         have:w.cell? (⟨b,o,none⟩:Addr)=some cs0[0]:=by simpa [Addr.add] using hx0
         unfold World.cell? at this
         by_cases hlt:b<w.heap.size
         · exact hlt
         · rw [Array.getElem?_eq_none (by simpa using hlt)] at this
           cases this
   | struct fs =>
     simp only [Bool.and_eq_true] at hp
     obtain ⟨xs,m,hm,_,hcl,hxl,hf⟩:=DataW.trod_struct hu h
     obtain rfl:m=n:=by omega
     obtain ⟨us,h1,h2,h3⟩:=okF_open (S:=S) (c:=⟨w,fun b=>b<w.heap.size,fun _=>none⟩) (ok:=okT P m) (tr:=fun t cs=> ∃ y,DataW.trod enc P w 0 spare held m t cs=some y)
      (fun t ht cs ⟨y,hy⟩=>open_plain hS m t ht cs y hy) (cs:=cs) fs.toList 0 hp.1 (by rw [hcl];exact hp.2) (fun f hfm=>by
        obtain ⟨i,hi,rfl⟩:=List.getElem_of_mem hfm
        have:=hf i (fs.toList[i]) (by simp)
        rw [this,List.getElem?_eq_getElem (by simpa [hxl] using hi)]
        exact ⟨_,rfl⟩)
     exact ⟨us,by unfold okT;rw [hu];exact h1,h2,by simpa using h3⟩
   | _=>simp at hp
end Go.Proofs.YtnbjogilidfkdaaGreat
