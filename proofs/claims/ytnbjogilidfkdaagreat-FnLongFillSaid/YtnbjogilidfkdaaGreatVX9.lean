/- Contracts: valid parts. -/
import Derived.Test.YtnbjogilidfkdaaGreatVX8
import Derived.Test.YtnbjogilidfkdaaGreatVXS
import Derived.Test.YtnbjogilidfkdaaGreatVX1

namespace Go.Proofs.YtnbjogilidfkdaaGreat
attribute [local irreducible] awp arun acalm FinP Fin AX.then AX.inBlock Again aG gsel amix amixN amixC aop aopc aopd cutK
attribute [local go_sem] aBSliceD aSlice aSliceC boundOf aMk aCall aCallC aLenL aLen aPick_t aPick_f aNil aAlloc aBox aBuild bldPV aBSlice bsPV aApp newsOf destOf drp aConvX aConv aConvInt aLoad cellsAt aStore cellsPV setAt aFld aField aIdx aIndex aUn aBin' aBin aMax aExtract pvOf PV.isCell nmbL PV.nmb List.map_cons List.map_nil List.all_cons List.all_nil Bool.and_true Bool.true_and if_true if_false List.getD_cons_zero List.getD_cons_succ List.getD_nil Option.isSome_some true_and and_true and_self eq_self true_or or_true List.drop_zero List.drop_succ_cons List.drop_nil List.take_zero List.take_succ_cons List.take_nil List.length_cons List.length_nil List.length_map Option.getD_some Option.getD_none List.nil_append List.cons_append List.append_nil Option.some.injEq exists_eq_left' List.getElem?_cons_zero List.getElem?_cons_succ Int.toNat_natCast Int.natCast_inj toNat_succ Nat.zero_add res res1 resC owns owns1 ownsC List.flatMap_cons List.flatMap_nil List.flatten_cons List.flatten_nil List.mem_cons List.not_mem_nil or_false false_or forall_eq forall_eq_or_imp isFro frz frz1 pureC tabA isBld List.cons.injEq PV.seq.injEq PV.int.injEq PV.str.injEq PV.bool.injEq PV.agg.injEq inR tab Γof aRes packR Option.map_some Option.map_none rel Prod.exists exists_and_left exists_eq_left and_assoc beq_self_eq_true Bool.not_true Bool.not_false decide_true decide_false List.set_cons_zero List.set_cons_succ rst_nil rst_cons
attribute [local go_sem ↓] evT upd_def aop aopc aopd
set_option maxRecDepth 100000
set_option linter.unusedVariables false
set_option linter.unusedSimpArgs false
open Go.RowKit
def lv96:Nat→List Nat
 | 0=>[0,1]
 | 1=>[0,1,8,9,10]
 | 2=>[0,1,8,9,10,11]
 | 3=>[0,1,5,6,8,9,10]
 | 4=>[0,1,5,6,8,9,10,16]
 | 5=>[4]
 | 6=>[0,1,5,6,8,9,10,16,17]
 | 7=>[0,1,5,6,7,8,9,10]
 | 8=>[0,1,5,6,8,9,10,53]
 | 9=>[4]
 | 10=>[0,1,8,9,10,79]
 | 11=>[4]
 | 12=>[0,1,6,8,9,10,16,80]
 | 13=>[0,1,8,9,10,120]
 | 14=>[4]
 | 15=>[0,1,6,8,9,10,16,121]
 | 16=>[0,1,6,8,9,10,121]
 | 17=>[0,1,8,9,10,163]
 | 18=>[4]
 | 19=>[0,1,8,9,10]
 | 20=>[4]
 | _=>[]
theorem toNat_pred (n:Nat):((n:Int) - 1).toNat=n - 1:=by omega
theorem nil_of {α:Type} {xs:List α} (h:(xs.length:Int)≤0):xs=[]:=List.eq_nil_of_length_eq_zero (by omega)
theorem two_nil {α:Type} {xs ys:List α} (h: ¬ (0:Int)<(xs.length:Int)+(ys.length:Int)):xs=[]∧ys=[]:=⟨nil_of (by omega),nil_of (by omega)⟩
theorem two_not {α:Type} {xs ys:List α} (h:(0:Int)<(xs.length:Int)+(ys.length:Int)):(decide (xs=[]) && decide (ys=[]))=false:=by
 rw [Bool.and_eq_false_iff]
 by_cases e:xs=[]
 · right;rw [decide_eq_false_iff_not];rintro e2;subst e e2;simp at h
 · left;rw [decide_eq_false_iff_not];exact e
@[go_sem] def pokC (n:Nat):PC:=rel (α:=List PartD×Int) (fun x=>[.seq (encPs x.1),.int .i64 x.2]) (fun x=>wtL x.1<n∧wtL x.1≤4294967280∧0≤x.2∧x.2≤3) (fun x=> .bool (gdL (3 - x.2).toNat false x.1))
@[go_sem] def pokQ:PC:=rel (α:=List PartD×Int) (fun x=>[.seq (encPs x.1),.int .i64 x.2]) (fun x=>wtL x.1≤4294967280∧0≤x.2∧x.2≤3) (fun x=> .bool (gdL (3 - x.2).toNat false x.1))
theorem prev_of {xs:List PartD} {k:Nat} (h:0<k) {y:PartD} (hy:xs[k - 1]?=some y):lastT false (xs.take k)=decide (y.kind=1):=by
 have:=lastT_take hy
 rwa [show k - 1+1=k by omega] at this
theorem len0 {α:Type} {xs:List α} (h:(xs.length:Int)=0):xs=[]:=List.eq_nil_of_length_eq_zero (by omega)
section
variable {d:Nat} {k:Int} {t nm:Bs} {ps os:List PartD}
theorem gd1f (h:textB t=false∨(t.length:Int)=0∨dbl 123 t=true∨dbl 125 t=true∨hasB [123,125] (t.getD 0 0)=true∨hasB [123,125] (t.getD (t.length - 1) 0)=true∨ ¬ nm=[]∨(0:Int)<ps.length+os.length):gdP d (.mk 1 t nm ps os)=false:=by
 rw [gdP_mk,if_pos rfl]
 rcases h with h|h|h|h|h|h|h|h
 · simp [txtB,h]
 · simp [txtB,len0 h]
 · simp [txtB,h]
 · simp [txtB,h]
 · simp only [txtB,edgeT,brace,h];simp
 · simp only [txtB,edgeT,brace,h];simp
 · simp [h]
 · rw [Bool.and_assoc,two_not h];simp
theorem gd1t (h1:textB t=true) (h2: ¬ (t.length:Int)=0) (h3:dbl 123 t=false) (h4:dbl 125 t=false) (h5:hasB [123,125] (t.getD 0 0)=false) (h6:hasB [123,125] (t.getD (t.length - 1) 0)=false) (h7:nm=[]) (h8: ¬ (0:Int)<ps.length+os.length):gdP d (.mk 1 t nm ps os)=true:=by
 obtain ⟨e1,e2⟩:=two_nil h8
 subst e1 e2 h7
 have:t≠[]:=by rintro rfl;exact h2 rfl
 rw [gdP_mk,if_pos rfl]
 simp only [txtB,edgeT,brace,h1,h3,h4,h5,h6]
 simp [this]
theorem gd2f (h:nameB nm=false∨nm=[105,102]∨nm=[101,97,99,104]∨nm=[101,108,115,101]∨nm=[101,110,100]∨ ¬ t=[]∨(0:Int)<ps.length+os.length):gdP d (.mk 2 t nm ps os)=false:=by
 rw [gdP_mk,if_neg (by decide),if_pos rfl]
 rcases h with h|h|h|h|h|h|h
 · simp [h]
 · simp [wordB,h]
 · simp [wordB,h]
 · simp [wordB,h]
 · simp [wordB,h]
 · simp [h]
 · rw [Bool.and_assoc,two_not h];simp
theorem gd2t (h1:nameB nm=true) (h2: ¬ nm=[105,102]) (h3: ¬ nm=[101,97,99,104]) (h4: ¬ nm=[101,108,115,101]) (h5: ¬ nm=[101,110,100]) (h6:t=[]) (h7: ¬ (0:Int)<ps.length+os.length):gdP d (.mk 2 t nm ps os)=true:=by
 obtain ⟨e1,e2⟩:=two_nil h7
 subst e1 e2 h6
 rw [gdP_mk,if_neg (by decide),if_pos rfl]
 simp [wordB,h1,h2,h3,h4,h5]
theorem gd3f (hk:k=3∨k=4) (h:nameB nm=false∨ ¬ t=[]∨(k=4∧(0:Int)<os.length)∨d=0∨gdL (d - 1) false ps=false∨gdL (d - 1) false os=false):gdP d (.mk k t nm ps os)=false:=by
 rw [gdP_mk,if_neg (by omega),if_neg (by omega),if_pos hk]
 rcases h with h|h|h|h|h|h
 · simp [h]
 · simp [h]
 · have:os≠[]:=by rintro rfl;simp at h
   simp [h.1,this]
 · simp [h]
 · simp [h]
 · simp [h]
theorem gd3t (hk:k=3∨k=4) (h1:nameB nm=true) (h2:t=[]) (h3:k=3∨ ¬ (0:Int)<os.length) (h4:d≠0) (h5:gdL (d - 1) false ps=true) (h6:gdL (d - 1) false os=true):gdP d (.mk k t nm ps os)=true:=by
 rw [gdP_mk,if_neg (by omega),if_neg (by omega),if_pos hk]
 have:(decide (k=4) && !decide (os=[]))=false:=by
  rcases h3 with h3|h3
  · simp [h3]
  · rw [nil_of (xs:=os) (by omega)];simp
 simp [h1,h2,this,h4,h5,h6]
theorem gd0f (h1: ¬ k=1) (h2: ¬ k=2) (h3: ¬ k=3) (h4: ¬ k=4):gdP d (.mk k t nm ps os)=false:=by
 rw [gdP_mk,if_neg h1,if_neg h2,if_neg (by omega)]
end
theorem deep1 {deep:Int} (h: ¬ 3≤deep):(3 - (deep+1)).toNat=(3 - deep).toNat - 1:=by omega
section
variable {deep:Int} {k:Int} {t nm:Bs} {ps os:List PartD}
def badP (deep k:Int) (t nm:Bs) (ps os:List PartD):Prop :=
 (k=1∧(textB t=false∨(t.length:Int)=0∨dbl 123 t=true∨dbl 125 t=true∨hasB [123,125] (t.getD 0 0)=true∨hasB [123,125] (t.getD (t.length - 1) 0)=true∨ ¬ nm=[]∨(0:Int)<ps.length+os.length)) ∨
 (k=2∧(nameB nm=false∨nm=[105,102]∨nm=[101,97,99,104]∨nm=[101,108,115,101]∨nm=[101,110,100]∨ ¬ t=[]∨(0:Int)<ps.length+os.length)) ∨
 ((k=3∨k=4)∧(nameB nm=false∨ ¬ t=[]∨(k=4∧(0:Int)<os.length)∨3≤deep∨gdL (3 - (deep+1)).toNat false ps=false∨gdL (3 - (deep+1)).toNat false os=false)) ∨
 (¬ k=1∧ ¬ k=2∧ ¬ k=3∧ ¬ k=4)
theorem gdF (h:badP deep k t nm ps os):gdP (3 - deep).toNat (.mk k t nm ps os)=false:=by
 rcases h with ⟨rfl,h⟩|⟨rfl,h⟩|⟨hk,h⟩|⟨h1,h2,h3,h4⟩
 · exact gd1f h
 · exact gd2f h
 · refine gd3f hk ?_
   by_cases h3:3≤deep
   · exact .inr (.inr (.inr (.inl (by omega))))
   · rw [deep1 h3] at h
     rcases h with h|h|h|h|h|h
     · exact .inl h
     · exact .inr (.inl h)
     · exact .inr (.inr (.inl h))
     · exact absurd h h3
     · exact .inr (.inr (.inr (.inr (.inl h))))
     · exact .inr (.inr (.inr (.inr (.inr h))))
 · exact gd0f h1 h2 h3 h4
theorem gdT (h: ¬ badP deep k t nm ps os):gdP (3 - deep).toNat (.mk k t nm ps os)=true:=by
 unfold badP at h
 simp only [not_or,not_and,Bool.not_eq_false,Bool.not_eq_true,Classical.not_not] at h
 obtain ⟨h1,h2,h3,h4⟩:=h
 by_cases k1:k=1
 · subst k1
   obtain ⟨a1,a2,a3,a4,a5,a6,a7,a8⟩:=h1 rfl
   exact gd1t a1 a2 a3 a4 a5 a6 a7 a8
 by_cases k2:k=2
 · subst k2
   obtain ⟨a1,a2,a3,a4,a5,a6,a7⟩:=h2 rfl
   exact gd2t a1 a2 a3 a4 a5 a6 a7
 have hk:k=3∨k=4:=by
  by_cases k3:k=3
  · exact .inl k3
  · exact .inr (h4 k1 k2 k3)
 obtain ⟨a1,a2,a3,a4,a5,a6⟩:=h3 hk
 rw [deep1 a4] at a5 a6
 exact gd3t hk a1 a2 (by rcases hk with e|e;exact .inl e;exact .inr (a3 e)) (by omega) a5 a6
end
set_option maxHeartbeats 16000000 in
theorem pok_i: ∀ n,PureOk Tryz.prog 96 (pokC n):=by
 intro n
 induction n with
 | zero=>exact never_rel Tryz.func96 (by kernel_rfl) (by kernel_rfl) (fun x h=>by omega)
 | succ n ih =>
 refine pure_rel 2 (tab_cons ih (tab_cons text_i (tab_cons cont_any (tab_cons has_i (tab_cons name_i tab_nil))))) mixed [.tmp 4] Tryz.func96 rfl rfl (by kernel_rfl) (by kernel_rfl) (fun _=>rfl) (by kernel_rfl) ?_
 rintro ⟨xs,deep⟩ K ⟨hn,hb,h0,h3⟩ hK
 clear ih
 dsimp only at *
 have hlw:=len_le_wtL xs
 unfold entry
 repeat' (first|((first|apply qwd|apply qa1);(try intro K hk);focus (simp only [lv96,mkT,go_sem,Nat.reduceEqDiff,↓reduceIte,reduceCtorEq];first|exact rfl|((repeat refine ai ?_);intros;apply hk;clear hk K)))|apply qw1|refine qwc lv96 ?_|apply qt1|apply qw5)
 refine s_loop (ι:=Nat) (fun k=>[(0,.seq (encPs xs)),(1,.int .i64 deep),(8,.seq (encPs xs)),(9,.int .i64 xs.length),(10,.int .i64 k)]) (fun _=>[]) 0 (fun k=>k≤xs.length∧gdL (3 - deep).toNat false (xs.take k)=true) (fun k=>xs.length - k) 0 (by omega) ⟨by omega,by simp [gdL_nil]⟩ ?_ ?_
 · simp [fits,fitsT,fitsM,upd_def,PV.nmb]
 rintro k ⟨hk,hp⟩
 simp only [mkS,mkT,mkM]
 repeat' (first|((first|apply qwd|apply qa1|apply qcd);(try intro K hk);focus (simp only [lv96,mkT,go_sem,Nat.reduceEqDiff,↓reduceIte,reduceCtorEq];first|exact rfl|((repeat refine ai ?_);intros;apply hk;clear hk K)))|apply qw1|refine qwc lv96 ?_|apply qt1|apply qw5|apply qw2|apply qt2|apply qt5|apply qw3|apply qw4|apply qj1|apply qj4|(refine qj6 ?_ ?_<;>intro hc<;>(try simp only [hc])<;>(try simp only [decide_eq_true_eq,decide_eq_false_iff_not] at hc)<;>(try (exfalso;omega))))
 · obtain ⟨⟨kd,t,nm,ps,os⟩,hx⟩:=get_some (xs:=xs) (k:=k) (by omega)
   have htk:=take_snoc' hx
   have ws:=wtL_split hx
   rw [wtP_mk] at ws
   have hget:=encPs_get xs
   have hb0:=byte_lt t 0
   have hb1:=byte_lt t (t.length - 1)
   have hps:=len_le_wtL ps
   have hos:=len_le_wtL os
   obtain ⟨⟨kd',t',nm',ps',os'⟩,hy⟩:=get_some (xs:=xs) (k:=k - 1) (by omega)
   have hpv:0<k→lastT false (xs.take k)=decide (kd'=1):=fun h=>by rw [prev_of h hy,kind_mk]
   repeat' (first|((first|apply qwd|apply qa1|apply qa2|apply qh1|apply qg1 rfl|apply qcd);(try intro K hk);focus (simp only [lv96,mkT,go_sem,Nat.reduceEqDiff,Nat.reduceAdd,Nat.reduceLeDiff,Int.reduceToNat,↓reduceIte,reduceCtorEq,hget,hx,hy,encP_mk,dbl_contains,toNat_pred];first|exact rfl|((repeat refine ai ?_);intros;apply hk;clear hk K)))|apply qw1|refine qwc lv96 ?_|apply qt1|apply qw5|apply qw2|apply qt3|apply qt4|apply qt6|apply qw4|apply qj1|apply qj2|apply qj3|apply qj4|apply qj5|apply qu1|(refine qj6 ?_ ?_<;>intro hc<;>(try simp only [hc])<;>(try simp only [decide_eq_true_eq,decide_eq_false_iff_not,Bool.not_eq_true',Bool.not_eq_false'] at hc)<;>(try (exfalso;omega))))
   all_goals first
    | (((first|refine fin_ret ?_|refine fin_end ?_);simp only [go_sem,↓upd_def,↓reduceIte])
       refine K_bool hK (gdL_fail hx (.inl (gdF ?_)))
       clear hK
       unfold badP
       grind)
    | (((first|refine fin_ret ?_|refine fin_end ?_);simp only [go_sem,↓upd_def,↓reduceIte])
       refine K_bool hK (gdL_fail hx (.inr ?_))
       clear hK
       rw [kind_mk]
       grind)
    | (refine s_again (k+1) ?_ ?_ ?_<;>(first|omega|(dsimp only;omega)|skip)
       · refine ⟨by omega,gdL_step hx hp (gdT ?_) ?_⟩
         · clear hK
           unfold badP
           grind
         · clear hK
           rw [kind_mk]
           by_cases h0k:0<k
           · rw [hpv h0k];grind
           · rw [show k=0 by omega,lastT_zero];rfl
       · simp [fits,fitsT,fitsM,upd_def,PV.nmb]
       done)
    | skip
 · obtain rfl:k=xs.length:=by omega
   ((first|refine fin_ret ?_|refine fin_end ?_);simp only [go_sem,↓upd_def,↓reduceIte])
   rw [List.take_length] at hp
   exact K_bool hK hp
end Go.Proofs.YtnbjogilidfkdaaGreat

/- Contracts: valid parts, the reference; the depth of parts. -/
namespace Go.Proofs.YtnbjogilidfkdaaGreat
attribute [local irreducible] awp arun acalm FinP Fin AX.then AX.inBlock Again aG gsel amix amixN amixC aop aopc aopd cutK
attribute [local go_sem] aBSliceD aSlice aSliceC boundOf aMk aCall aCallC aLenL aLen aPick_t aPick_f aNil aAlloc aBox aBuild bldPV aBSlice bsPV aApp newsOf destOf drp aConvX aConv aConvInt aLoad cellsAt aStore cellsPV setAt aFld aField aIdx aIndex aUn aBin' aBin aMax aExtract pvOf PV.isCell nmbL PV.nmb List.map_cons List.map_nil List.all_cons List.all_nil Bool.and_true Bool.true_and if_true if_false List.getD_cons_zero List.getD_cons_succ List.getD_nil Option.isSome_some true_and and_true and_self eq_self true_or or_true List.drop_zero List.drop_succ_cons List.drop_nil List.take_zero List.take_succ_cons List.take_nil List.length_cons List.length_nil List.length_map Option.getD_some Option.getD_none List.nil_append List.cons_append List.append_nil Option.some.injEq exists_eq_left' List.getElem?_cons_zero List.getElem?_cons_succ Int.toNat_natCast Int.natCast_inj toNat_succ Nat.zero_add res res1 resC owns owns1 ownsC List.flatMap_cons List.flatMap_nil List.flatten_cons List.flatten_nil List.mem_cons List.not_mem_nil or_false false_or forall_eq forall_eq_or_imp isFro frz frz1 pureC tabA isBld List.cons.injEq PV.seq.injEq PV.int.injEq PV.str.injEq PV.bool.injEq PV.agg.injEq inR tab Γof aRes packR Option.map_some Option.map_none rel Prod.exists exists_and_left exists_eq_left and_assoc beq_self_eq_true Bool.not_true Bool.not_false decide_true decide_false List.set_cons_zero List.set_cons_succ rst_nil rst_cons
attribute [local go_sem ↓] evT upd_def aop aopc aopd
set_option maxRecDepth 100000
set_option linter.unusedVariables false
set_option linter.unusedSimpArgs false
open Go.RowKit
def lv128:Nat→List Nat
 | 0=>[0,1]
 | 1=>[0,1,5]
 | 2=>[0,1,5,12]
 | 3=>[0,1,5]
 | 4=>[0,1,5,6]
 | 5=>[0,1,5,6,7]
 | 6=>[0,1,5,6,7,30]
 | 7=>[4]
 | 8=>[0,1,5,6,7,30,31]
 | 9=>[0,1,5,6,7,8]
 | 10=>[0,1,5,106]
 | 11=>[4]
 | 12=>[0,1,5,6,7,30,107]
 | 13=>[0,1,5,126]
 | 14=>[4]
 | 15=>[0,1,5,6,30,127]
 | 16=>[0,1,5,6,127]
 | 17=>[0,1,5,169]
 | 18=>[4]
 | 19=>[4]
 | _=>[]
theorem two_at {s:Bs} {k:Nat} {x y:UInt8} (h:k+1<s.length):List.drop k (List.take (k+2) s)=[x,y]↔s.getD k 0=x∧s.getD (k+1) 0=y:=by
 rw [List.drop_take,Nat.add_sub_cancel_left,drop_getD (show k<s.length by omega),drop_getD (k:=k+1) (by omega)]
 simp
theorem has9_s:PureOk Tryz.prog 145 (tC fun s=> .bool (dbl 123 s || dbl 125 s)):=by
 refine pure_rel 1 tab_nil mixed [.tmp 2] Tryz.func145 rfl rfl (by kernel_rfl) (by kernel_rfl) (fun _=>rfl) (by kernel_rfl) ?_
 rintro s K hl hK
 unfold entry
 repeat' (first|((first|apply qa1);(try intro K hk);focus (simp only [go_sem];first|exact rfl|((repeat refine ai ?_);intros;apply hk;clear hk K)))|apply qw8|apply qw1|apply qw6|apply qt1|apply qw5)
 refine s_loop (ι:=Nat) (fun k=>[(0,.str s),(3,.int .i64 k)]) (fun _=>[]) 0 (fun k=>k≤s.length∧(dbl 123 s || dbl 125 s)=(dbl 123 (s.drop k) || dbl 125 (s.drop k))) (fun k=>s.length - k) 0 (by omega) ⟨by omega,by simp⟩ ?_ ?_
 · simp [fits,fitsT,fitsM,upd_def,PV.nmb]
 rintro k ⟨hk,hp⟩
 simp only [mkS,mkT,mkM]
 by_cases hk1:k+1<s.length
 · have hs:=fun x y=>two_at (x:=x) (y:=y) hk1
   repeat' (first|((first|apply qa1|apply qh1|apply qg1 rfl|apply qcd);(try intro K hk);focus (simp only [go_sem,Nat.reduceEqDiff,↓reduceIte,reduceCtorEq,toNat_2,hs];first|exact rfl|((repeat refine ai ?_);intros;apply hk;clear hk K)))|apply qw8|apply qw1|apply qw6|apply qt1|apply qw5|apply qw2|apply qt3|apply qt4|apply qt6|apply qw4|apply qj1|apply qj2|apply qj3|apply qj4|apply qu1|(refine qj6 ?_ ?_<;>intro hc<;>(try simp only [hc])<;>(try simp only [decide_eq_true_eq,decide_eq_false_iff_not] at hc)<;>(try (exfalso;omega))))
   · ((first|refine fin_ret ?_|refine fin_end ?_);simp only [go_sem,↓upd_def,↓reduceIte])
     refine K_bool hK ?_
     rw [hp,dbl_drop hk1]
     simp [hc,-List.getD_eq_getElem?_getD]
   · ((first|refine fin_ret ?_|refine fin_end ?_);simp only [go_sem,↓upd_def,↓reduceIte])
     refine K_bool hK ?_
     rw [hp,dbl_drop hk1,dbl_drop (c:=125) hk1]
     simp [hc,-List.getD_eq_getElem?_getD]
   · refine s_again (k+1) ?_ ?_ ?_<;>(first|omega|(dsimp only;omega)|skip)
     · refine ⟨by omega,?_⟩
       rw [hp,dbl_drop hk1,dbl_drop (c:=125) hk1]
       rename_i h2
       simp only [← Bool.decide_and,h2,hc]
       simp
     · simp [fits,fitsT,fitsM,upd_def,PV.nmb]
 · repeat' (first|((first|apply qa1|apply qcd);(try intro K hk);focus (simp only [go_sem,Nat.reduceEqDiff,↓reduceIte,reduceCtorEq];first|exact rfl|((repeat refine ai ?_);intros;apply hk;clear hk K)))|apply qw8|apply qw1|apply qw6|apply qt1|apply qt2|apply qt5|apply qw3|apply qw4|apply qj4|(refine qj6 ?_ ?_<;>intro hc<;>(try simp only [hc])<;>(try simp only [decide_eq_true_eq,decide_eq_false_iff_not] at hc)<;>(try (exfalso;omega))))
   ((first|refine fin_ret ?_|refine fin_end ?_);simp only [go_sem,↓upd_def,↓reduceIte])
   refine K_bool hK ?_
   rw [hp,dbl_end hk1,dbl_end hk1];rfl
theorem word_s:PureOk Tryz.prog 146 (tC fun s=> .bool (wordB s)):=by
 refine pure_rel 1 tab_nil mixed [.tmp 2] Tryz.func146 rfl rfl (by kernel_rfl) (by kernel_rfl) (fun _=>rfl) (by kernel_rfl) ?_
 rintro s K hl hK
 unfold entry
 repeat' (first|((first|apply qa1|apply qh1|apply qg1 rfl);(try intro K hk);focus (simp only [go_sem,Nat.reduceEqDiff,↓reduceIte,reduceCtorEq];first|exact rfl|((repeat refine ai ?_);intros;apply hk;clear hk K)))|apply qw8|apply qw1|apply qw6|apply qt1|apply qw4|apply qj2|apply qj3|apply qu1|(refine qj6 ?_ ?_<;>intro hc<;>(try simp only [hc])<;>(try simp only [decide_eq_true_eq,decide_eq_false_iff_not] at hc)<;>(try (exfalso;omega))))
 all_goals
  ((first|refine fin_ret ?_|refine fin_end ?_);simp only [go_sem,↓upd_def,↓reduceIte])
  refine K_bool hK ?_
  clear hK
  unfold wordB
  simp [*]
section
variable {d k:Int} {t nm:Bs} {ps os:List PartD}
def badS (d k:Int) (t nm:Bs) (ps os:List PartD):Prop :=
 (k=1∧(textB t=false∨t=[]∨(dbl 123 t || dbl 125 t)=true∨((t.getD 0 0).toNat:Int)=123∨((t.getD 0 0).toNat:Int)=125∨((t.getD (t.length - 1) 0).toNat:Int)=123∨((t.getD (t.length - 1) 0).toNat:Int)=125∨ ¬ nm=[]∨ ¬ (ps.length:Int)=0∨ ¬ (os.length:Int)=0)) ∨
 (k=2∧(nameB nm=false∨wordB nm=true∨ ¬ t=[]∨ ¬ (ps.length:Int)=0∨ ¬ (os.length:Int)=0)) ∨
 ((k=3∨k=4)∧(nameB nm=false∨ ¬ t=[]∨(k=4∧(0:Int)<os.length)∨d=0∨gdL (d - 1).toNat false ps=false∨gdL (d - 1).toNat false os=false)) ∨
 (¬ k=1∧ ¬ k=2∧ ¬ k=3∧ ¬ k=4)
theorem badS_P (h0:0≤d) (h3:d≤3):badS d k t nm ps os↔badP (3 - d) k t nm ps os:=by
 have e1:3 - (3 - d+1)=d - 1:=by omega
 have hb1:=brace_iff (t.getD 0 0)
 have hb2:=brace_iff (t.getD (t.length - 1) 0)
 have e2:(t.length:Int)=0↔t=[]:=⟨len0,fun h=>by rw [h];rfl⟩
 have e3:(0:Int)<ps.length+os.length↔ ¬ (ps.length:Int)=0∨ ¬ (os.length:Int)=0:=by omega
 have e4:(3:Int)≤3 - d↔d=0:=by omega
 have e5:wordB nm=true↔nm=[105,102]∨nm=[101,97,99,104]∨nm=[101,108,115,101]∨nm=[101,110,100]:=by
  simp only [wordB,Bool.or_eq_true,decide_eq_true_eq,or_assoc]
 unfold brace at hb1 hb2
 unfold badS badP
 rw [e1,e2,e3,e4,hb1,hb2,e5]
 simp only [Bool.or_eq_true]
 grind
theorem gdFs (h0:0≤d) (h3:d≤3) (h:badS d k t nm ps os):gdP d.toNat (.mk k t nm ps os)=false:=by
 have:=gdF ((badS_P h0 h3).1 h)
 rwa [show 3 - (3 - d)=d by omega] at this
theorem gdTs (h0:0≤d) (h3:d≤3) (h: ¬ badS d k t nm ps os):gdP d.toNat (.mk k t nm ps os)=true:=by
 have:=gdT (fun h'=>h ((badS_P h0 h3).2 h'))
 rwa [show 3 - (3 - d)=d by omega] at this
end
@[go_sem] def gooC (n:Nat):PC:=rel (α:=List PartD×Int) (fun x=>[.seq (encPs x.1),.int .i64 x.2]) (fun x=>wtL x.1<n∧wtL x.1≤4294967280∧0≤x.2∧x.2≤3) (fun x=> .bool (gdL x.2.toNat false x.1))
@[go_sem] def gooQ:PC:=rel (α:=List PartD×Int) (fun x=>[.seq (encPs x.1),.int .i64 x.2]) (fun x=>wtL x.1≤4294967280∧0≤x.2∧x.2≤3) (fun x=> .bool (gdL x.2.toNat false x.1))
set_option maxHeartbeats 32000000 in
theorem goo_s: ∀ n,PureOk Tryz.prog 128 (gooC n):=by
 intro n
 induction n with
 | zero=>exact never_rel Tryz.func128 (by kernel_rfl) (by kernel_rfl) (fun x h=>by omega)
 | succ n ih =>
 refine pure_rel 2 (tab_cons ih (tab_cons text_s (tab_cons has9_s (tab_cons name_s (tab_cons word_s tab_nil))))) mixed [.tmp 4] Tryz.func128 rfl rfl (by kernel_rfl) (by kernel_rfl) (fun _=>rfl) (by kernel_rfl) ?_
 rintro ⟨xs,deep⟩ K ⟨hn,hb,h0,h3⟩ hK
 clear ih
 dsimp only at *
 have hlw:=len_le_wtL xs
 unfold entry
 repeat' (first|((first|apply qwd|apply qa1);(try intro K hk);focus (simp only [lv128,mkT,go_sem,Nat.reduceEqDiff,↓reduceIte,reduceCtorEq];first|exact rfl|((repeat refine ai ?_);intros;apply hk;clear hk K)))|apply qw1|refine qwc lv128 ?_|apply qt1|apply qw5)
 refine s_loop (ι:=Nat) (fun k=>[(0,.seq (encPs xs)),(1,.int .i64 deep),(5,.int .i64 k)]) (fun _=>[]) 0 (fun k=>k≤xs.length∧gdL deep.toNat false (xs.take k)=true) (fun k=>xs.length - k) 0 (by omega) ⟨by omega,by simp [gdL_nil]⟩ ?_ ?_
 · simp [fits,fitsT,fitsM,upd_def,PV.nmb]
 rintro k ⟨hk,hp⟩
 simp only [mkS,mkT,mkM]
 repeat' (first|((first|apply qwd|apply qa1|apply qcd);(try intro K hk);focus (simp only [lv128,mkT,go_sem,Nat.reduceEqDiff,↓reduceIte,reduceCtorEq];first|exact rfl|((repeat refine ai ?_);intros;apply hk;clear hk K)))|apply qw1|refine qwc lv128 ?_|apply qt1|apply qw5|apply qw2|apply qt2|apply qt5|apply qw3|apply qw4|apply qj1|apply qj4|(refine qj6 ?_ ?_<;>intro hc<;>(try simp only [hc])<;>(try simp only [decide_eq_true_eq,decide_eq_false_iff_not] at hc)<;>(try (exfalso;omega))))
 · obtain ⟨⟨kd,t,nm,ps,os⟩,hx⟩:=get_some (xs:=xs) (k:=k) (by omega)
   have htk:=take_snoc' hx
   have ws:=wtL_split hx
   rw [wtP_mk] at ws
   have hget:=encPs_get xs
   have hb0:=byte_lt t 0
   have hb1:=byte_lt t (t.length - 1)
   have hps:=len_le_wtL ps
   have hos:=len_le_wtL os
   have htl: ¬ t=[]→0<t.length:=fun h=>List.length_pos_iff.2 h
   obtain ⟨⟨kd',t',nm',ps',os'⟩,hy⟩:=get_some (xs:=xs) (k:=k - 1) (by omega)
   have hpv:0<k→lastT false (xs.take k)=decide (kd'=1):=fun h=>by rw [prev_of h hy,kind_mk]
   by_cases ht0:t=[]
   · subst ht0
     repeat' (first|((first|apply qwd|apply qa1|apply qa2|apply qh1|apply qg1 rfl|apply qcd);(try intro K hk);focus (simp only [lv128,mkT,go_sem,Nat.reduceEqDiff,Nat.reduceAdd,Nat.reduceLeDiff,↓reduceIte,reduceCtorEq,hget,hx,encP_mk];first|exact rfl|((repeat refine ai ?_);intros;apply hk;clear hk K)))|apply qw1|refine qwc lv128 ?_|apply qt1|apply qw5|apply qw2|apply qt3|apply qt4|apply qt6|apply qw4|apply qj1|apply qj2|apply qj3|apply qj4|apply qj5|apply qu1|(refine qj6 ?_ ?_<;>intro hc<;>(try simp only [hc])<;>(try simp only [decide_eq_true_eq,decide_eq_false_iff_not,Bool.not_eq_true',Bool.not_eq_false'] at hc)<;>(try (exfalso;omega))))
     all_goals first
      | (((first|refine fin_ret ?_|refine fin_end ?_);simp only [go_sem,↓upd_def,↓reduceIte])
         refine K_bool hK (gdL_fail hx (.inl (gdFs h0 h3 ?_)))
         clear hK
         unfold badS
         grind)
      | (((first|refine fin_ret ?_|refine fin_end ?_);simp only [go_sem,↓upd_def,Nat.reduceEqDiff,Nat.reduceAdd,↓reduceIte,reduceCtorEq])
         refine K_bool hK (gdL_fail hx (.inr ?_))
         clear hK
         rw [kind_mk]
         grind)
      | (refine s_again (k+1) ?_ ?_ ?_<;>(first|omega|(dsimp only;omega)|skip)
         · refine ⟨by omega,gdL_step hx hp (gdTs h0 h3 ?_) ?_⟩
           · clear hK
             unfold badS
             grind
           · clear hK
             rw [kind_mk]
             by_cases h0k:0<k
             · rw [hpv h0k];grind
             · rw [show k=0 by omega,lastT_zero];rfl
         · simp [fits,fitsT,fitsM,upd_def,PV.nmb]
         done)
      | skip
   · have htp:=htl ht0
     repeat' (first|((first|apply qwd|apply qa1|apply qa2|apply qh1|apply qg1 rfl|apply qcd);(try intro K hk);focus (simp only [lv128,mkT,go_sem,Nat.reduceEqDiff,Nat.reduceAdd,Nat.reduceLeDiff,Int.reduceToNat,↓reduceIte,reduceCtorEq,hget,hx,hy,encP_mk,toNat_pred,ht0];first|exact rfl|((repeat refine ai ?_);intros;apply hk;clear hk K)))|apply qw1|refine qwc lv128 ?_|apply qt1|apply qw5|apply qw2|apply qt3|apply qt4|apply qt6|apply qw4|apply qj1|apply qj2|apply qj3|apply qj4|apply qj5|apply qu1|(refine qj6 ?_ ?_<;>intro hc<;>(try simp only [hc])<;>(try simp only [decide_eq_true_eq,decide_eq_false_iff_not,Bool.not_eq_true',Bool.not_eq_false'] at hc)<;>(try (exfalso;omega))))
     all_goals first
      | (((first|refine fin_ret ?_|refine fin_end ?_);simp only [go_sem,↓upd_def,↓reduceIte])
         refine K_bool hK (gdL_fail hx (.inl (gdFs h0 h3 ?_)))
         clear hK
         unfold badS
         grind)
      | (((first|refine fin_ret ?_|refine fin_end ?_);simp only [go_sem,↓upd_def,↓reduceIte])
         refine K_bool hK (gdL_fail hx (.inr ?_))
         clear hK
         rw [kind_mk]
         grind)
      | (refine s_again (k+1) ?_ ?_ ?_<;>(first|omega|(dsimp only;omega)|skip)
         · refine ⟨by omega,gdL_step hx hp (gdTs h0 h3 ?_) ?_⟩
           · clear hK
             unfold badS
             grind
           · clear hK
             rw [kind_mk]
             by_cases h0k:0<k
             · rw [hpv h0k];grind
             · rw [show k=0 by omega,lastT_zero];rfl
         · simp [fits,fitsT,fitsM,upd_def,PV.nmb]
         done)
      | skip
 · obtain rfl:k=xs.length:=by omega
   ((first|refine fin_ret ?_|refine fin_end ?_);simp only [go_sem,↓upd_def,↓reduceIte])
   rw [List.take_length] at hp
   exact K_bool hK hp
end Go.Proofs.YtnbjogilidfkdaaGreat

/- Contracts: PartsValid, DeepestPart. -/
namespace Go.Proofs.YtnbjogilidfkdaaGreat
attribute [local irreducible] awp arun acalm FinP Fin AX.then AX.inBlock Again aG gsel amix amixN amixC aop aopc aopd cutK
attribute [local go_sem] aBSliceD aSlice aSliceC boundOf aMk aCall aCallC aLenL aLen aPick_t aPick_f aNil aAlloc aBox aBuild bldPV aBSlice bsPV aApp newsOf destOf drp aConvX aConv aConvInt aLoad cellsAt aStore cellsPV setAt aFld aField aIdx aIndex aUn aBin' aBin aMax aExtract pvOf PV.isCell nmbL PV.nmb List.map_cons List.map_nil List.all_cons List.all_nil Bool.and_true Bool.true_and if_true if_false List.getD_cons_zero List.getD_cons_succ List.getD_nil Option.isSome_some true_and and_true and_self eq_self true_or or_true List.drop_zero List.drop_succ_cons List.drop_nil List.take_zero List.take_succ_cons List.take_nil List.length_cons List.length_nil List.length_map Option.getD_some Option.getD_none List.nil_append List.cons_append List.append_nil Option.some.injEq exists_eq_left' List.getElem?_cons_zero List.getElem?_cons_succ Int.toNat_natCast Int.natCast_inj toNat_succ Nat.zero_add res res1 resC owns owns1 ownsC List.flatMap_cons List.flatMap_nil List.flatten_cons List.flatten_nil List.mem_cons List.not_mem_nil or_false false_or forall_eq forall_eq_or_imp isFro frz frz1 pureC tabA isBld List.cons.injEq PV.seq.injEq PV.int.injEq PV.str.injEq PV.bool.injEq PV.agg.injEq inR tab Γof aRes packR Option.map_some Option.map_none rel Prod.exists exists_and_left exists_eq_left and_assoc beq_self_eq_true Bool.not_true Bool.not_false decide_true decide_false List.set_cons_zero List.set_cons_succ rst_nil rst_cons
attribute [local go_sem ↓] evT upd_def aop aopc aopd
set_option maxRecDepth 100000
set_option linter.unusedVariables false
set_option linter.unusedSimpArgs false
open Go.RowKit
@[go_sem] def parV (f:List PartD→PV):PC:=rel (α:=List PartD) (fun x=>[.seq (encPs x)]) (fun x=>wtL x≤4294967280) f
theorem pok_ic:PureOk Tryz.prog 96 pokQ:=rel_all (fun x:List PartD×Int=>wtL x.1) pok_i
theorem pv_i:PureOk Tryz.prog 52 (parV fun x=> .bool (partsB x)):=by
 refine pure_rel 1 (tab_cons cnt_ic (tab_cons pok_ic tab_nil)) mixed [.tmp 2] Tryz.func52 rfl rfl (by kernel_rfl) (by kernel_rfl) (fun _=>rfl) (by kernel_rfl) ?_
 rintro xs K hb hK
 unfold entry
 repeat' (first|((first|apply qa1|apply qh1|apply qg1 rfl);(try intro K hk);focus (simp only [go_sem,Nat.reduceEqDiff,↓reduceIte,reduceCtorEq];first|exact rfl|((repeat refine ai ?_);intros;apply hk;clear hk K)))|apply qw8|apply qw1|apply qw6|apply qt1|apply qw4|apply qj1|apply qj4|apply qu1|(refine qj6 ?_ ?_<;>intro hc<;>(try simp only [hc])<;>(try simp only [decide_eq_true_eq,decide_eq_false_iff_not] at hc)<;>(try (exfalso;omega))))
 all_goals
  ((first|refine fin_ret ?_|refine fin_end ?_);simp only [go_sem,↓upd_def,↓reduceIte])
  refine K_bool hK ?_
  clear hK
  unfold partsB
  simp [*]
  try omega
theorem goo_sc:PureOk Tryz.prog 128 gooQ:=rel_all (fun x:List PartD×Int=>wtL x.1) goo_s
theorem pv_s:PureOk Tryz.prog 104 (parV fun x=> .bool (partsB x)):=by
 refine pure_rel 1 (tab_cons cnt_sc (tab_cons goo_sc tab_nil)) mixed [.tmp 2] Tryz.func104 rfl rfl (by kernel_rfl) (by kernel_rfl) (fun _=>rfl) (by kernel_rfl) ?_
 rintro xs K hb hK
 unfold entry
 repeat' (first|((first|apply qa1|apply qh1|apply qg1 rfl);(try intro K hk);focus (simp only [go_sem,Nat.reduceEqDiff,Int.reduceToNat,↓reduceIte,reduceCtorEq];first|exact rfl|((repeat refine ai ?_);intros;apply hk;clear hk K)))|apply qw8|apply qw1|apply qw6|apply qt1|apply qw4|apply qj1|apply qj4|apply qu1|(refine qj6 ?_ ?_<;>intro hc<;>(try simp only [hc])<;>(try simp only [decide_eq_true_eq,decide_eq_false_iff_not] at hc)<;>(try (exfalso;omega))))
 all_goals
  ((first|refine fin_ret ?_|refine fin_end ?_);simp only [go_sem,↓upd_def,↓reduceIte])
  refine K_bool hK ?_
  clear hK
  unfold partsB
  simp [*]
  try omega
end Go.Proofs.YtnbjogilidfkdaaGreat
