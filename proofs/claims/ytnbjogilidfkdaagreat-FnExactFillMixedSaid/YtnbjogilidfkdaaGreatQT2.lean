/- The laws' own functions on rows of texts, numbers and filled holes: sizes, copies, comparison, marks. -/
import Derived.Test.YtnbjogilidfkdaaGreatQF12
import Derived.Test.YtnbjogilidfkdaaGreatQK3
import Derived.Test.YtnbjogilidfkdaaGreatQTY
import Derived.Test.YtnbjogilidfkdaaGreatQX1

namespace Go.Proofs.YtnbjogilidfkdaaGreat
attribute [local irreducible] awp arun acalm FinP Fin AX.then AX.inBlock Again aG gsel amix amixN amixC aop aopc aopd cutK
attribute [local go_sem] aBSliceD aSlice aSliceC boundOf aMk aCall aCallC aLenL aLen aPick_t aPick_f aNil aAlloc aBox aBuild bldPV aBSlice bsPV aApp newsOf destOf drp aConvX aConv aConvInt aLoad cellsAt aStore cellsPV setAt aFld aField aIdx aIndex aUn aBin' aBin aMax aExtract pvOf PV.isCell nmbL PV.nmb List.map_cons List.map_nil List.all_cons List.all_nil Bool.and_true Bool.true_and if_true if_false List.getD_cons_zero List.getD_cons_succ List.getD_nil Option.isSome_some true_and and_true and_self eq_self true_or or_true List.drop_zero List.drop_succ_cons List.drop_nil List.take_zero List.take_succ_cons List.take_nil List.length_cons List.length_nil List.length_map Option.getD_some Option.getD_none List.nil_append List.cons_append List.append_nil Option.some.injEq exists_eq_left' List.getElem?_cons_zero List.getElem?_cons_succ Int.toNat_natCast Int.natCast_inj toNat_succ Nat.zero_add res res1 resC owns owns1 ownsC List.flatMap_cons List.flatMap_nil List.flatten_cons List.flatten_nil List.mem_cons List.not_mem_nil or_false false_or forall_eq forall_eq_or_imp isFro frz frz1 pureC tabA isBld List.cons.injEq PV.seq.injEq PV.int.injEq PV.str.injEq PV.bool.injEq PV.agg.injEq inR tab Γof aRes packR Option.map_some Option.map_none rel Prod.exists exists_and_left exists_eq_left and_assoc beq_self_eq_true Bool.not_true Bool.not_false decide_true decide_false List.set_cons_zero List.set_cons_succ rst_nil rst_cons
attribute [local go_sem ↓] evT upd_def aop aopc aopd
set_option maxRecDepth 100000
set_option linter.unusedVariables false
set_option linter.unusedSimpArgs false
open Go.RowKit
def lvT2_88:Nat→List Nat
 | 0=>[0,1]
 | 1=>[0,1,10]
 | 2=>[4]
 | 3=>[0,1,5]
 | 4=>[0,1,5,14]
 | 5=>[0,1,5]
 | 6=>[0,1,5,25]
 | 7=>[4]
 | 8=>[4]
 | _=>[]
--LV=T2
theorem strs_len (l:List Bs):(strs l).length=l.length:=by simp [strs]
theorem strs_get (l:List Bs) (k:Nat):(strs l)[k]?=(l[k]?).map fun t=>[.str t]:=by simp [strs]
theorem strs_inj {a b:List Bs}:strs a=strs b↔a=b:=by
 constructor
 · intro h
   unfold strs at h
   exact (List.map_inj_right (fun x y e=>by simpa using e)).1 h
 · rintro rfl;rfl
theorem strs_append (a b:List Bs):strs (a++b)=strs a++strs b:=by simp [strs]
def okSs (l:List Bs):Prop:=l.length≤9223372036854775807∧ ∀ t ∈ l,t.length≤9223372036854775807
@[go_sem] def eqSsC:PC:=rel (α:=List Bs×List Bs) (fun x=>[.seq (strs x.1),.seq (strs x.2)]) (fun x=>okSs x.1∧okSs x.2) (fun x=> .bool (decide (x.1=x.2)))
theorem eqSs_ok:PureOk Tryz.prog 88 eqSsC:=by
 refine pure_rel 2 tab_nil mixed [.tmp 4] Tryz.func88 rfl rfl (by kernel_rfl) (by kernel_rfl) (fun _=>rfl) (by kernel_rfl) ?_
 rintro ⟨a,b⟩ K ⟨⟨ha,ha2⟩,hb,hb2⟩ hK
 dsimp only at *
 unfold entry
 repeat' (first|((first|apply qwd|apply qa1|apply qa2|apply qa3|apply qh1|apply qh2|apply qg1 rfl|apply qcd);(try intro K hk);focus (simp only [lvT2_88,mkT,go_sem,Nat.reduceEqDiff,Nat.reduceAdd,Nat.reduceLeDiff,Nat.reduceLT,Nat.reduceSub,Int.reduceToNat,↓reduceIte,reduceCtorEq,strs_len];first|exact rfl|((repeat refine ai ?_);intros;apply hk;clear hk K)))|apply qw8|apply qw1|refine qwc lvT2_88 ?_|apply qt1|apply qw5|apply qw2|apply qw9|apply qt2|apply qt3|apply qt4|apply qt5|apply qt6|apply qw3|apply qw4|apply qj1|apply qj2|apply qj3|apply qj4|apply qj5|apply qu1|apply qu2|(refine qj6 ?_ ?_<;>intro hc<;>(try simp only [hc])<;>(try simp only [decide_eq_true_eq,decide_eq_false_iff_not,Bool.not_eq_true',Bool.not_eq_false',Bool.not_eq_true,reduceCtorEq] at hc)<;>(try (exfalso;omega)))|(refine qt7 ?_ ?_;focus decide)|(refine qw7 ?_ ?_ ?_;(focus (decide +kernel));(focus (decide +kernel))))
 · ((first|refine fin_ret ?_|refine fin_end ?_);simp only [go_sem,↓upd_def,Nat.reduceEqDiff,Nat.reduceAdd,↓reduceIte,reduceCtorEq])
   refine K_bool hK (decide_eq_false ?_)
   rintro rfl;omega
 refine s_loop (ι:=Nat) (fun k=>[(0,.seq (strs a)),(1,.seq (strs b)),(5,.int .i64 k)]) (fun _=>[]) 0 (fun k=>k≤a.length∧a.take k=b.take k) (fun k=>a.length - k) 0 (by omega) ⟨by omega,by simp⟩ ?_ ?_
 · simp [fits,fitsT,fitsM,upd_def,PV.nmb,nmbL,MB.nmb,List.getD_cons_zero,List.getD_cons_succ]
 rintro k ⟨hk,he⟩
 simp only [mkS,mkT,mkM]
 by_cases hka:k<a.length
 · obtain ⟨x,hx⟩:=get_some (xs:=a) (k:=k) hka
   obtain ⟨y,hy⟩:=get_some (xs:=b) (k:=k) (by omega)
   have ga:=strs_get a k
   have gb:=strs_get b k
   rw [hx] at ga
   rw [hy] at gb
   repeat' (first|((first|apply qwd|apply qa1|apply qa2|apply qa3|apply qh1|apply qh2|apply qg1 rfl|apply qcd);(try intro K hk);focus (simp only [lvT2_88,mkT,go_sem,Nat.reduceEqDiff,Nat.reduceAdd,Nat.reduceLeDiff,Nat.reduceLT,Nat.reduceSub,Int.reduceToNat,↓reduceIte,reduceCtorEq,strs_len,ga,gb];first|exact rfl|((repeat refine ai ?_);intros;apply hk;clear hk K)))|apply qw8|apply qw1|refine qwc lvT2_88 ?_|apply qt1|apply qw5|apply qw2|apply qw9|apply qt2|apply qt3|apply qt4|apply qt5|apply qt6|apply qw3|apply qw4|apply qj1|apply qj2|apply qj3|apply qj4|apply qj5|apply qu1|apply qu2|(refine qj6 ?_ ?_<;>intro hc<;>(try simp only [hc])<;>(try simp only [decide_eq_true_eq,decide_eq_false_iff_not,Bool.not_eq_true',Bool.not_eq_false',Bool.not_eq_true,reduceCtorEq] at hc)<;>(try (exfalso;omega)))|(refine qt7 ?_ ?_;focus decide)|(refine qw7 ?_ ?_ ?_;(focus (decide +kernel));(focus (decide +kernel))))
   · ((first|refine fin_ret ?_|refine fin_end ?_);simp only [go_sem,↓upd_def,Nat.reduceEqDiff,Nat.reduceAdd,↓reduceIte,reduceCtorEq])
     refine K_bool hK (decide_eq_false ?_)
     intro e
     rw [e,hy] at hx
     have hne: ¬ x=y:= ‹_›
     exact hne (Option.some.inj hx).symm
   · refine s_again (k+1) ?_ ?_ ?_<;>(first|omega|(dsimp only;omega)|skip)
     · refine ⟨by omega,?_⟩
       rw [take_snoc' hx,take_snoc' hy,he,hc]
     · simp [fits,fitsT,fitsM,upd_def,PV.nmb,nmbL,MB.nmb,List.getD_cons_zero,List.getD_cons_succ]
 · obtain rfl:k=a.length:=by omega
   repeat' (first|((first|apply qwd|apply qa1|apply qa2|apply qa3|apply qh1|apply qh2|apply qg1 rfl|apply qcd);(try intro K hk);focus (simp only [lvT2_88,mkT,go_sem,Nat.reduceEqDiff,Nat.reduceAdd,Nat.reduceLeDiff,Nat.reduceLT,Nat.reduceSub,Int.reduceToNat,↓reduceIte,reduceCtorEq,strs_len];first|exact rfl|((repeat refine ai ?_);intros;apply hk;clear hk K)))|apply qw8|apply qw1|refine qwc lvT2_88 ?_|apply qt1|apply qw5|apply qw2|apply qw9|apply qt2|apply qt3|apply qt4|apply qt5|apply qt6|apply qw3|apply qw4|apply qj1|apply qj2|apply qj3|apply qj4|apply qj5|apply qu1|apply qu2|(refine qj6 ?_ ?_<;>intro hc<;>(try simp only [hc])<;>(try simp only [decide_eq_true_eq,decide_eq_false_iff_not,Bool.not_eq_true',Bool.not_eq_false',Bool.not_eq_true,reduceCtorEq] at hc)<;>(try (exfalso;omega)))|(refine qt7 ?_ ?_;focus decide)|(refine qw7 ?_ ?_ ?_;(focus (decide +kernel));(focus (decide +kernel))))
   ((first|refine fin_ret ?_|refine fin_end ?_);simp only [go_sem,↓upd_def,Nat.reduceEqDiff,Nat.reduceAdd,↓reduceIte,reduceCtorEq])
   refine K_bool hK (decide_eq_true ?_)
   rw [List.take_length] at he
   rw [he,List.take_of_length_le (by omega)]
def encH (x:Int×Bs):List PV:=[.int .i64 x.1,.str x.2]
def encHs (l:List (Int×Bs)):List (List PV):=l.map encH
theorem encH_inj {x y:Int×Bs}:encH x=encH y↔x=y:=by
 cases x;cases y;simp [encH]
@[go_sem] theorem encHs_inj {a b:List (Int×Bs)}:encHs a=encHs b↔a=b:=by
 constructor
 · intro h
   unfold encHs at h
   exact (List.map_inj_right (fun x y e=>encH_inj.1 e)).1 h
 · rintro rfl;rfl
theorem mem_of_get {α:Type} {l:List α} {k:Nat} {x:α} (h:l[k]?=some x):x ∈ l:=by
 obtain ⟨h1,rfl⟩:=List.getElem?_eq_some_iff.1 h
 exact List.getElem_mem h1
end Go.Proofs.YtnbjogilidfkdaaGreat

/- The laws' own functions on fields: sizes, copies, comparison. -/
namespace Go.Proofs.YtnbjogilidfkdaaGreat
attribute [local irreducible] awp arun acalm FinP Fin AX.then AX.inBlock Again aG gsel amix amixN amixC aop aopc aopd cutK
attribute [local go_sem] aBSliceD aSlice aSliceC boundOf aMk aCall aCallC aLenL aLen aPick_t aPick_f aNil aAlloc aBox aBuild bldPV aBSlice bsPV aApp newsOf destOf drp aConvX aConv aConvInt aLoad cellsAt aStore cellsPV setAt aFld aField aIdx aIndex aUn aBin' aBin aMax aExtract pvOf PV.isCell nmbL PV.nmb List.map_cons List.map_nil List.all_cons List.all_nil Bool.and_true Bool.true_and if_true if_false List.getD_cons_zero List.getD_cons_succ List.getD_nil Option.isSome_some true_and and_true and_self eq_self true_or or_true List.drop_zero List.drop_succ_cons List.drop_nil List.take_zero List.take_succ_cons List.take_nil List.length_cons List.length_nil List.length_map Option.getD_some Option.getD_none List.nil_append List.cons_append List.append_nil Option.some.injEq exists_eq_left' List.getElem?_cons_zero List.getElem?_cons_succ Int.toNat_natCast Int.natCast_inj toNat_succ Nat.zero_add res res1 resC owns owns1 ownsC List.flatMap_cons List.flatMap_nil List.flatten_cons List.flatten_nil List.mem_cons List.not_mem_nil or_false false_or forall_eq forall_eq_or_imp isFro frz frz1 pureC tabA isBld List.cons.injEq PV.seq.injEq PV.int.injEq PV.str.injEq PV.bool.injEq PV.agg.injEq inR tab Γof aRes packR Option.map_some Option.map_none rel Prod.exists exists_and_left exists_eq_left and_assoc beq_self_eq_true Bool.not_true Bool.not_false decide_true decide_false List.set_cons_zero List.set_cons_succ rst_nil rst_cons
attribute [local go_sem ↓] evT upd_def aop aopc aopd
set_option maxRecDepth 100000
set_option linter.unusedVariables false
set_option linter.unusedSimpArgs false
open Go.RowKit
def lvT4_13:Nat→List Nat
 | 0=>[0,1]
 | 1=>[0,1]
 | 2=>[0,1,11]
 | 3=>[4]
 | 4=>[0,1,5]
 | 5=>[0,1,5,15]
 | 6=>[0,1,5]
 | 7=>[0,1,5]
 | 8=>[0,1,5,25]
 | 9=>[4]
 | 10=>[4]
 | _=>[]
def lvT4_16:Nat→List Nat
 | 0=>[0]
 | 1=>[0,3]
 | 2=>[0,3,4]
 | 3=>[0,3,4,11]
 | 4=>[0,3,4]
 | 5=>[0,3,4]
 | 6=>[2]
 | _=>[]
def lvT4_19:Nat→List Nat
 | 0=>[0,1]
 | 1=>[0,1,10]
 | 2=>[4]
 | 3=>[0,1,5]
 | 4=>[0,1,5,14]
 | 5=>[0,1,5]
 | 6=>[0,1,5,26]
 | 7=>[4]
 | 8=>[4]
 | _=>[]
def lvT4_39:Nat→List Nat
 | 0=>[1,2]
 | 1=>[1,2]
 | 2=>[1,2,11]
 | 3=>[4]
 | 4=>[1,2]
 | 5=>[1,2,18]
 | 6=>[4]
 | 7=>[1]
 | 8=>[1,24]
 | 9=>[4]
 | 10=>[4]
 | _=>[]
def lvT4_42:Nat→List Nat
 | 0=>[1,2]
 | 1=>[1,2,3]
 | 2=>[1,2,3]
 | 3=>[1,2,3]
 | 4=>[1,2,3]
 | 5=>[2,3]
 | 6=>[2]
 | _=>[]
def lvT4_47:Nat→List Nat
 | 0=>[2,3]
 | 1=>[2,3,9]
 | 2=>[4]
 | 3=>[2,3,14]
 | 4=>[4]
 | 5=>[2,3,19]
 | 6=>[4]
 | 7=>[25]
 | 8=>[4]
 | 9=>[4]
 | _=>[]
def lvT4_82:Nat→List Nat
 | 0=>[0,1]
 | 1=>[0,1]
 | 2=>[0,1,11]
 | 3=>[4]
 | 4=>[0,1,5]
 | 5=>[0,1,5,15]
 | 6=>[0,1,5]
 | 7=>[0,1,5]
 | 8=>[0,1,5,26]
 | 9=>[4]
 | 10=>[4]
 | _=>[]
def lvT4_84:Nat→List Nat
 | 0=>[0]
 | 1=>[0,3]
 | 2=>[0,3,4]
 | 3=>[0,3,4,11]
 | 4=>[0,3,4]
 | 5=>[0,3,4]
 | 6=>[2]
 | _=>[]
--LV=T4
def wtS (l:List Bs):Nat:=(l.map List.length).sum
theorem wtS_append (a b:List Bs):wtS (a++b)=wtS a+wtS b:=by simp [wtS]
theorem wtS_snoc {l:List Bs} {k:Nat} {t:Bs} (h:l[k]?=some t):wtS (l.take (k+1))=wtS (l.take k)+t.length:=by
 rw [take_snoc' h,wtS_append];simp [wtS]
theorem wtS_le (l:List Bs) (k:Nat):wtS (l.take k)≤wtS l:=by
 have e:wtS l=wtS (l.take k++l.drop k):=by rw [List.take_append_drop]
 rw [e,wtS_append];omega
def wtF (f:FieldD):Nat:=f.name.length+f.text.length+(f.items.length+wtS f.items)
def wtFs (l:List FieldD):Nat:=(l.map wtF).sum
theorem wtFs_append (a b:List FieldD):wtFs (a++b)=wtFs a+wtFs b:=by simp [wtFs]
theorem wtFs_snoc {l:List FieldD} {k:Nat} {f:FieldD} (h:l[k]?=some f):wtFs (l.take (k+1))=wtFs (l.take k)+wtF f:=by
 rw [take_snoc' h,wtFs_append];simp [wtFs]
theorem wtFs_le (l:List FieldD) (k:Nat):wtFs (l.take k)≤wtFs l:=by
 have e:wtFs l=wtFs (l.take k++l.drop k):=by rw [List.take_append_drop]
 rw [e,wtFs_append];omega
def okF1 (f:FieldD):Prop:=f.name.length≤9223372036854775807∧f.text.length≤9223372036854775807∧okSs f.items
theorem okF_one {l:List FieldD} (h:okF l) {k:Nat} {f:FieldD} (hx:l[k]?=some f):okF1 f:=by
 obtain ⟨h1,h2,h3,h4⟩:=okF_get h hx
 exact ⟨h1,h2,h3,h4⟩
theorem ex_FD {p:FieldD→Prop}:(∃ x,p x)↔ ∃ n t b i,p ⟨n,t,b,i⟩:=⟨fun ⟨⟨n,t,b,i⟩,h⟩=>⟨n,t,b,i,h⟩,fun ⟨n,t,b,i,h⟩=>⟨_,h⟩⟩
@[go_sem] def szSsC:PC:=rel (α:=List Bs×Int) (fun x=>[.seq (strs x.1),.int .i64 x.2]) (fun x=>okSs x.1∧0≤x.2∧x.2≤1048576) (fun x=> .int .i64 (leftI x.2 (x.1.length+wtS x.1)))
theorem szSs_ok:PureOk Tryz.prog 82 szSsC:=by
 refine pure_rel 2 tab_nil mixed [.tmp 4] Tryz.func82 rfl rfl (by kernel_rfl) (by kernel_rfl) (fun _=>rfl) (by kernel_rfl) ?_
 rintro ⟨l,m⟩ K ⟨⟨h0,h3⟩,h1,h2⟩ hK
 dsimp only at *
 unfold entry
 repeat' (first|((first|apply qwd|apply qa1|apply qcd);(try intro K hk);focus (simp only [lvT4_82,mkT,go_sem,Nat.reduceEqDiff,↓reduceIte,reduceCtorEq,strs_len];first|exact rfl|((repeat refine ai ?_);intros;apply hk;clear hk K)))|apply qw1|refine qwc lvT4_82 ?_|apply qt1|apply qw5|apply qw2|apply qt3|apply qw4|apply qj1|apply qj4|(refine qj6 ?_ ?_<;>intro hc<;>(try simp only [hc])<;>(try simp only [decide_eq_true_eq,decide_eq_false_iff_not] at hc)<;>(try (exfalso;omega))))
 · ((first|refine fin_ret ?_|refine fin_end ?_);simp only [go_sem,↓upd_def,↓reduceIte])
   refine K_int hK ?_
   unfold leftI
   split<;>omega
 refine s_loop (ι:=Nat) (fun k=>[(0,.seq (strs l)),(1,.int .i64 (m - l.length - wtS (l.take k))),(5,.int .i64 k)]) (fun _=>[]) 0 (fun k=>k≤l.length∧0≤m - l.length - wtS (l.take k)) (fun k=>l.length - k) 0 (by omega) ⟨by omega,by simp [wtS];omega⟩ ?_ ?_
 · simp [fits,fitsT,fitsM,upd_def,PV.nmb,wtS]
 rintro k ⟨hk,he⟩
 simp only [mkS,mkT,mkM]
 by_cases hka:k<l.length
 · obtain ⟨t,hx⟩:=get_some (xs:=l) (k:=k) hka
   have ga:(strs l)[k]?=some [.str t]:=by rw [strs_get,hx];rfl
   have hxl:=h3 _ (mem_of_get hx)
   have hw:=wtS_snoc hx
   have hwl:=wtS_le l (k+1)
   repeat' (first|((first|apply qwd|apply qa1|apply qcd);(try intro K hk);focus (simp only [lvT4_82,mkT,go_sem,Nat.reduceEqDiff,↓reduceIte,reduceCtorEq,strs_len,ga];first|exact rfl|((repeat refine ai ?_);intros;apply hk;clear hk K)))|apply qw1|refine qwc lvT4_82 ?_|apply qt1|apply qw5|apply qw2|apply qt3|apply qt4|apply qt6|apply qw4|apply qj1|apply qj4|(refine qj6 ?_ ?_<;>intro hc<;>(try simp only [hc])<;>(try simp only [decide_eq_true_eq,decide_eq_false_iff_not] at hc)<;>(try (exfalso;omega))))
   · ((first|refine fin_ret ?_|refine fin_end ?_);simp only [go_sem,↓upd_def,↓reduceIte])
     refine K_int hK ?_
     unfold leftI
     split<;>omega
   · refine s_again (k+1) ?_ ?_ ?_<;>(first|omega|(dsimp only;omega)|skip)
     simp [fits,fitsT,fitsM,upd_def,PV.nmb,hw]
     omega
 · obtain rfl:k=l.length:=by omega
   repeat' (first|((first|apply qwd|apply qa1|apply qcd);(try intro K hk);focus (simp only [lvT4_82,mkT,go_sem,Nat.reduceEqDiff,↓reduceIte,reduceCtorEq,strs_len];first|exact rfl|((repeat refine ai ?_);intros;apply hk;clear hk K)))|apply qw1|refine qwc lvT4_82 ?_|apply qt1|apply qt2|apply qt5|apply qw3|apply qw4|apply qj4|(refine qj6 ?_ ?_<;>intro hc<;>(try simp only [hc])<;>(try simp only [decide_eq_true_eq,decide_eq_false_iff_not] at hc)<;>(try (exfalso;omega))))
   ((first|refine fin_ret ?_|refine fin_end ?_);simp only [go_sem,↓upd_def,↓reduceIte])
   refine K_int hK ?_
   rw [List.take_length] at *
   unfold leftI
   split<;>omega
@[go_sem] def szFC:PC:=rel (α:=FieldD×Int) (fun x=>[.agg (encF x.1),.int .i64 x.2]) (fun x=>okF1 x.1∧0≤x.2∧x.2≤1048576) (fun x=> .int .i64 (leftI x.2 (wtF x.1)))
theorem szF_ok:PureOk Tryz.prog 39 szFC:=by
 refine pure_rel 2 (tab_cons szSs_ok tab_nil) mixed [.tmp 4] Tryz.func39 rfl rfl (by kernel_rfl) (by kernel_rfl) (fun _=>rfl) (by kernel_rfl) ?_
 rintro ⟨⟨n,t,b,i⟩,m⟩ K ⟨⟨o1,o2,o3⟩,h1,h2⟩ hK
 dsimp only at *
 have hwf:wtF ⟨n,t,b,i⟩=n.length+t.length+(i.length+wtS i):=rfl
 unfold entry
 repeat' (first|((first|apply qwd|apply qa1|apply qcd);(try intro K hk);focus (simp only [lvT4_39,mkT,go_sem,Nat.reduceEqDiff,↓reduceIte,encF_mk,strs_inj];first|exact rfl|((repeat refine ai ?_);intros;apply hk;clear hk K)))|apply qw1|refine qwc lvT4_39 ?_|apply qt1|apply qw2|apply qt3|apply qw4|apply qj1|apply qj4|(refine qj6 ?_ ?_<;>intro hc<;>(try simp only [hc])<;>(try simp only [decide_eq_true_eq,decide_eq_false_iff_not] at hc)<;>(try (exfalso;omega))))
 all_goals
  ((first|refine fin_ret ?_|refine fin_end ?_);simp only [go_sem,↓upd_def,↓reduceIte])
  refine K_int hK ?_
  clear hK
  rw [hwf]
  unfold leftI at *
  (repeat' split)<;>omega
@[go_sem] def szFsC:PC:=rel (α:=List FieldD×Int) (fun x=>[.seq (encFs x.1),.int .i64 x.2]) (fun x=>okF x.1∧0≤x.2∧x.2≤1048576) (fun x=> .int .i64 (leftI x.2 (x.1.length+wtFs x.1)))
theorem szFs_ok:PureOk Tryz.prog 13 szFsC:=by
 refine pure_rel 2 (tab_cons szF_ok tab_nil) mixed [.tmp 4] Tryz.func13 rfl rfl (by kernel_rfl) (by kernel_rfl) (fun _=>rfl) (by kernel_rfl) ?_
 rintro ⟨l,m⟩ K ⟨hok,h1,h2⟩ hK
 dsimp only at *
 obtain ⟨h0,_⟩:=id hok
 unfold entry
 repeat' (first|((first|apply qwd|apply qa1|apply qcd);(try intro K hk);focus (simp only [lvT4_13,mkT,go_sem,Nat.reduceEqDiff,↓reduceIte,reduceCtorEq,encFs_length];first|exact rfl|((repeat refine ai ?_);intros;apply hk;clear hk K)))|apply qw1|refine qwc lvT4_13 ?_|apply qt1|apply qw5|apply qw2|apply qt3|apply qw4|apply qj1|apply qj4|(refine qj6 ?_ ?_<;>intro hc<;>(try simp only [hc])<;>(try simp only [decide_eq_true_eq,decide_eq_false_iff_not] at hc)<;>(try (exfalso;omega))))
 · ((first|refine fin_ret ?_|refine fin_end ?_);simp only [go_sem,↓upd_def,↓reduceIte])
   refine K_int hK ?_
   unfold leftI
   split<;>omega
 refine s_loop (ι:=Nat) (fun k=>[(0,.seq (encFs l)),(1,.int .i64 (m - l.length - wtFs (l.take k))),(5,.int .i64 k)]) (fun _=>[]) 0 (fun k=>k≤l.length∧0≤m - l.length - wtFs (l.take k)) (fun k=>l.length - k) 0 (by omega) ⟨by omega,by simp [wtFs];omega⟩ ?_ ?_
 · simp [fits,fitsT,fitsM,upd_def,PV.nmb,wtFs]
 rintro k ⟨hk,he⟩
 simp only [mkS,mkT,mkM]
 by_cases hka:k<l.length
 · obtain ⟨⟨fn,ft,fh,fi⟩,hx⟩:=get_some (xs:=l) (k:=k) hka
   have ga:(encFs l)[k]?=some [.str fn,.str ft,.bool fh,.seq (strs fi)]:=by rw [encFs_get,hx];rfl
   have hxo:=okF_one hok hx
   have hw:=wtFs_snoc hx
   have hwl:=wtFs_le l (k+1)
   repeat' (first|((first|apply qwd|apply qa1|apply qcd);(try intro K hk);focus (simp only [lvT4_13,mkT,go_sem,Nat.reduceEqDiff,Nat.reduceAdd,Nat.reduceLeDiff,↓reduceIte,reduceCtorEq,encFs_length,ga,ex_FD,encF_mk,strs_inj];first|exact rfl|((repeat refine ai ?_);intros;apply hk;clear hk K)))|apply qw1|refine qwc lvT4_13 ?_|apply qt1|apply qw5|apply qw2|apply qt3|apply qt4|apply qt6|apply qw4|apply qj1|apply qj4|(refine qj6 ?_ ?_<;>intro hc<;>(try simp only [hc])<;>(try simp only [decide_eq_true_eq,decide_eq_false_iff_not] at hc)<;>(try (exfalso;omega))))
   · ((first|refine fin_ret ?_|refine fin_end ?_);simp only [go_sem,↓upd_def,↓reduceIte])
     have h9:=leftI_neg ‹_›
     refine K_int hK ?_
     unfold leftI
     split<;>omega
   · have h9:=leftI_pos ‹_›
     rw [h9.2]
     refine s_again (k+1) ?_ ?_ ?_<;>(first|omega|(dsimp only;omega)|skip)
     simp [fits,fitsT,fitsM,upd_def,PV.nmb,hw]
     omega
 · obtain rfl:k=l.length:=by omega
   repeat' (first|((first|apply qwd|apply qa1|apply qcd);(try intro K hk);focus (simp only [lvT4_13,mkT,go_sem,Nat.reduceEqDiff,↓reduceIte,reduceCtorEq,encFs_length];first|exact rfl|((repeat refine ai ?_);intros;apply hk;clear hk K)))|apply qw1|refine qwc lvT4_13 ?_|apply qt1|apply qt2|apply qt5|apply qw3|apply qw4|apply qj4|(refine qj6 ?_ ?_<;>intro hc<;>(try simp only [hc])<;>(try simp only [decide_eq_true_eq,decide_eq_false_iff_not] at hc)<;>(try (exfalso;omega))))
   ((first|refine fin_ret ?_|refine fin_end ?_);simp only [go_sem,↓upd_def,↓reduceIte])
   refine K_int hK ?_
   rw [List.take_length] at *
   unfold leftI
   split<;>omega
@[go_sem] def toSsC:PC:=rel (α:=List Bs) (fun x=>[.seq (strs x)]) (fun x=>okSs x∧x.length≤1048576) (fun x=> .seq (strs x))
theorem toSs_ok:PureOk Tryz.prog 84 toSsC:=by
 refine pure_rel 1 tab_nil mixed [.tmp 2] Tryz.func84 rfl rfl (by kernel_rfl) (by kernel_rfl) (fun _=>rfl) (by kernel_rfl) ?_
 rintro l K ⟨⟨h0,h2⟩,h1⟩ hK
 unfold entry
 repeat' (first|((first|apply qwd|apply qa1);(try intro K hk);focus (simp only [lvT4_84,mkT,go_sem,Nat.reduceEqDiff,↓reduceIte,reduceCtorEq,strs_len];first|exact rfl|((repeat refine ai ?_);intros;apply hk;clear hk K)))|apply qw1|refine qwc lvT4_84 ?_|apply qt1|apply qw5)
 refine s_loop (ι:=Nat) (fun j=>[(0,.seq (strs l)),(3,.own 0),(4,.int .i64 j)]) (fun j=>[(0,.row 9 1 (strs (l.take j)++List.replicate (l.length - j) [PV.str []]))]) 1 (fun j=>j≤l.length) (fun j=>l.length - j) 0 (by omega) (by omega) ?_ ?_
 · simp [fits,fitsT,fitsM,upd_def,PV.nmb,MB.nmb,strs]
 rintro j hj
 have hL:(strs (l.take j)++List.replicate (l.length - j) [PV.str []]).length=l.length:=by rw [List.length_append,strs_len,List.length_take,List.length_replicate];omega
 simp only [mkS,mkT,mkM]
 by_cases hjl:j<l.length
 · obtain ⟨t,hx⟩:=get_some (xs:=l) (k:=j) hjl
   have ga:(strs l)[j]?=some [.str t]:=by rw [strs_get,hx];rfl
   have gx:(strs (l.take j)++List.replicate (l.length - j) [PV.str []])[j]?=some [.str []]:=by
    rw [List.getElem?_append_right (by rw [strs_len,List.length_take];omega),strs_len,List.length_take,List.getElem?_replicate,if_pos (by omega)]
   repeat' (first|((first|apply qwd|apply qa1|apply qa2|apply qcd);(try intro K hk);focus (simp only [lvT4_84,mkT,go_sem,Nat.reduceEqDiff,Nat.reduceLeDiff,↓reduceIte,reduceCtorEq,strs_len,ga,gx,hL];first|exact rfl|((repeat refine ai ?_);intros;apply hk;clear hk K)))|apply qw1|refine qwc lvT4_84 ?_|apply qt1|apply qw5|apply qw2|apply qt4|apply qj1|(refine qj6 ?_ ?_<;>intro hc<;>(try simp only [hc])<;>(try simp only [decide_eq_true_eq,decide_eq_false_iff_not] at hc)<;>(try (exfalso;omega))))
   refine s_again (j+1) ?_ ?_ ?_<;>(first|omega|(dsimp only;omega)|skip)
   have hlt:(strs (l.take j)).length=j:=by rw [strs_len,List.length_take];omega
   have e1:l.length - j=(l.length - (j+1))+1:=by omega
   have e2:strs (l.take (j+1))=strs (l.take j)++[[.str t]]:=by rw [take_snoc' hx,strs_append];rfl
   have e3:(strs (l.take j)++List.replicate (l.length - j) [PV.str []]).set j [.str t]=strs (l.take (j+1))++List.replicate (l.length - (j+1)) [PV.str []]:=by
    rw [List.set_append_right _ _ (by omega),hlt,Nat.sub_self,e1,List.replicate_succ,List.set_cons_zero,e2,List.append_assoc];rfl
   simp [fits,fitsT,fitsM,upd_def,PV.nmb,MB.nmb,e3]
 · obtain rfl:j=l.length:=by omega
   repeat' (first|((first|apply qwd|apply qa1|apply qcd);(try intro K hk);focus (simp only [lvT4_84,mkT,go_sem,Nat.reduceEqDiff,↓reduceIte,reduceCtorEq,strs_len];first|exact rfl|((repeat refine ai ?_);intros;apply hk;clear hk K)))|apply qw1|refine qwc lvT4_84 ?_|apply qt1|apply qt2|apply qt5|apply qw3|apply qw4|apply qj4|(refine qj6 ?_ ?_<;>intro hc<;>(try simp only [hc])<;>(try simp only [decide_eq_true_eq,decide_eq_false_iff_not] at hc)<;>(try (exfalso;omega))))
   ((first|refine fin_ret ?_|refine fin_end ?_);simp only [go_sem,↓upd_def,↓reduceIte])
   rw [List.take_length,Nat.sub_self,List.replicate_zero,List.append_nil]
   exact hK
@[go_sem] def toFC:PC:=rel (α:=FieldD) (fun x=>[.agg (encF x)]) (fun x=>okF1 x∧x.items.length≤1048576) (fun x=> .agg (encF x))
theorem toF_ok:PureOk Tryz.prog 42 toFC:=by
 refine pure_rel 1 (tab_cons toSs_ok tab_nil) mixed [.cell 2 46] Tryz.func42 rfl rfl (by kernel_rfl) (by kernel_rfl) (fun _=>rfl) (by kernel_rfl) ?_
 rintro ⟨n,t,b,i⟩ K ⟨⟨o1,o2,o3⟩,h1⟩ hK
 dsimp only at *
 unfold entry
 repeat' (first|((first|apply qwd|apply qa1|apply qa2);(try intro K hk);focus (simp only [lvT4_42,mkT,go_sem,Nat.reduceEqDiff,Nat.reduceAdd,Nat.reduceLeDiff,↓reduceIte,reduceCtorEq,encF_mk,strs_inj];first|exact rfl|((repeat refine ai ?_);intros;apply hk;clear hk K)))|apply qw1|refine qwc lvT4_42 ?_|apply qt1|apply qw4)
 ((first|refine fin_ret ?_|refine fin_end ?_);simp only [go_sem,↓upd_def,Nat.reduceAdd,↓reduceIte])
 exact ⟨Nat.le_refl _,hK⟩
@[go_sem] def toFsC:PC:=rel (α:=List FieldD) (fun x=>[.seq (encFs x)]) (fun x=>okF x∧x.length≤1048576∧ ∀ f ∈ x,f.items.length≤1048576) (fun x=> .seq (encFs x))
theorem toFs_ok:PureOk Tryz.prog 16 toFsC:=by
 refine pure_rel 1 (tab_cons toF_ok tab_nil) mixed [.tmp 2] Tryz.func16 rfl rfl (by kernel_rfl) (by kernel_rfl) (fun _=>rfl) (by kernel_rfl) ?_
 rintro l K ⟨hok,h1,h2⟩ hK
 obtain ⟨h0,_⟩:=id hok
 unfold entry
 repeat' (first|((first|apply qwd|apply qa1);(try intro K hk);focus (simp only [lvT4_16,mkT,go_sem,Nat.reduceEqDiff,↓reduceIte,reduceCtorEq,encFs_length];first|exact rfl|((repeat refine ai ?_);intros;apply hk;clear hk K)))|apply qw1|refine qwc lvT4_16 ?_|apply qt1|apply qw5)
 refine s_loop (ι:=Nat) (fun j=>[(0,.seq (encFs l)),(3,.own 0),(4,.int .i64 j)]) (fun j=>[(0,.row 46 4 (encFs (l.take j)++List.replicate (l.length - j) [PV.str [],PV.str [],PV.bool false,PV.seq []]))]) 1 (fun j=>j≤l.length) (fun j=>l.length - j) 0 (by omega) (by omega) ?_ ?_
 · simp [fits,fitsT,fitsM,upd_def,PV.nmb,MB.nmb,encFs]
 rintro j hj
 have hL:(encFs (l.take j)++List.replicate (l.length - j) [PV.str [],PV.str [],PV.bool false,PV.seq []]).length=l.length:=by rw [List.length_append,encFs_length,List.length_take,List.length_replicate];omega
 simp only [mkS,mkT,mkM]
 by_cases hjl:j<l.length
 · obtain ⟨⟨n,t,b,i⟩,hx⟩:=get_some (xs:=l) (k:=j) hjl
   have ga:(encFs l)[j]?=some [.str n,.str t,.bool b,.seq (strs i)]:=by rw [encFs_get,hx];rfl
   have hxo:=okF_one hok hx
   have hxi:=h2 _ (mem_of_get hx)
   dsimp only at hxi
   have gx:(encFs (l.take j)++List.replicate (l.length - j) [PV.str [],PV.str [],PV.bool false,PV.seq []])[j]?=some [.str [],.str [],.bool false,.seq []]:=by
    rw [List.getElem?_append_right (by rw [encFs_length,List.length_take];omega),encFs_length,List.length_take,List.getElem?_replicate,if_pos (by omega)]
   repeat' (first|((first|apply qwd|apply qa1|apply qa2|apply qcd);(try intro K hk);focus (simp only [lvT4_16,mkT,go_sem,Nat.reduceEqDiff,Nat.reduceAdd,Nat.reduceLeDiff,↓reduceIte,reduceCtorEq,encFs_length,ga,gx,hL,ex_FD,encF_mk,strs_inj];first|exact rfl|((repeat refine ai ?_);intros;apply hk;clear hk K)))|apply qw1|refine qwc lvT4_16 ?_|apply qt1|apply qw5|apply qw2|apply qt4|apply qj1|(refine qj6 ?_ ?_<;>intro hc<;>(try simp only [hc])<;>(try simp only [decide_eq_true_eq,decide_eq_false_iff_not] at hc)<;>(try (exfalso;omega))))
   refine s_again (j+1) ?_ ?_ ?_<;>(first|omega|(dsimp only;omega)|skip)
   have hlt:(encFs (l.take j)).length=j:=by rw [encFs_length,List.length_take];omega
   have e1:l.length - j=(l.length - (j+1))+1:=by omega
   have e2:encFs (l.take (j+1))=encFs (l.take j)++[[.str n,.str t,.bool b,.seq (strs i)]]:=by rw [take_snoc' hx,encFs_append];rfl
   have e3:(encFs (l.take j)++List.replicate (l.length - j) [PV.str [],PV.str [],PV.bool false,PV.seq []]).set j [.str n,.str t,.bool b,.seq (strs i)]=encFs (l.take (j+1))++List.replicate (l.length - (j+1)) [PV.str [],PV.str [],PV.bool false,PV.seq []]:=by
    rw [List.set_append_right _ _ (by omega),hlt,Nat.sub_self,e1,List.replicate_succ,List.set_cons_zero,e2,List.append_assoc];rfl
   simp [fits,fitsT,fitsM,upd_def,PV.nmb,MB.nmb,e3]
 · obtain rfl:j=l.length:=by omega
   repeat' (first|((first|apply qwd|apply qa1|apply qcd);(try intro K hk);focus (simp only [lvT4_16,mkT,go_sem,Nat.reduceEqDiff,↓reduceIte,reduceCtorEq,encFs_length];first|exact rfl|((repeat refine ai ?_);intros;apply hk;clear hk K)))|apply qw1|refine qwc lvT4_16 ?_|apply qt1|apply qt2|apply qt5|apply qw3|apply qw4|apply qj4|(refine qj6 ?_ ?_<;>intro hc<;>(try simp only [hc])<;>(try simp only [decide_eq_true_eq,decide_eq_false_iff_not] at hc)<;>(try (exfalso;omega))))
   ((first|refine fin_ret ?_|refine fin_end ?_);simp only [go_sem,↓upd_def,↓reduceIte])
   rw [List.take_length,Nat.sub_self,List.replicate_zero,List.append_nil]
   exact hK
@[go_sem] def eqFC:PC:=rel (α:=FieldD×FieldD) (fun x=>[.agg (encF x.1),.agg (encF x.2)]) (fun x=>okF1 x.1∧okF1 x.2) (fun x=> .bool (decide (x.1=x.2)))
theorem eqF_ok:PureOk Tryz.prog 47 eqFC:=by
 refine pure_rel 2 (tab_cons eqSs_ok tab_nil) mixed [.tmp 4] Tryz.func47 rfl rfl (by kernel_rfl) (by kernel_rfl) (fun _=>rfl) (by kernel_rfl) ?_
 rintro ⟨⟨n,t,b,i⟩,⟨n',t',b',i'⟩⟩ K ⟨⟨o1,o2,o3⟩,⟨q1,q2,q3⟩⟩ hK
 dsimp only at *
 unfold entry
 repeat' (first|((first|apply qwd|apply qa1|apply qcd);(try intro K hk);focus (simp only [lvT4_47,mkT,go_sem,Nat.reduceEqDiff,Nat.reduceAdd,↓reduceIte,reduceCtorEq,encF_mk,strs_inj];first|exact rfl|((repeat refine ai ?_);intros;apply hk;clear hk K)))|apply qw1|refine qwc lvT4_47 ?_|apply qt1|apply qw2|apply qt3|apply qw4|apply qj1|apply qj4|(refine qj6 ?_ ?_<;>intro hc<;>(try simp only [hc])<;>(try simp only [decide_eq_true_eq,decide_eq_false_iff_not,Bool.not_eq_true',Bool.not_eq_false'] at hc)<;>(try (exfalso;omega))))
 all_goals
  ((first|refine fin_ret ?_|refine fin_end ?_);simp only [go_sem,↓upd_def,↓reduceIte])
  refine K_bool hK ?_
  clear hK
  simp only [FieldD.mk.injEq]
  simp_all
@[go_sem] def eqFsC:PC:=rel (α:=List FieldD×List FieldD) (fun x=>[.seq (encFs x.1),.seq (encFs x.2)]) (fun x=>okF x.1∧okF x.2) (fun x=> .bool (decide (x.1=x.2)))
theorem eqFs_ok:PureOk Tryz.prog 19 eqFsC:=by
 refine pure_rel 2 (tab_cons eqF_ok tab_nil) mixed [.tmp 4] Tryz.func19 rfl rfl (by kernel_rfl) (by kernel_rfl) (fun _=>rfl) (by kernel_rfl) ?_
 rintro ⟨a,b⟩ K ⟨ha,hb⟩ hK
 dsimp only at *
 obtain ⟨ha0,_⟩:=id ha
 obtain ⟨hb0,_⟩:=id hb
 have hga:=encFs_get a
 have hgb:=encFs_get b
 unfold entry
 by_cases hlen:a.length=b.length
 · repeat' (first|((first|apply qwd|apply qa1|apply qcd);(try intro K hk);focus (simp only [lvT4_19,mkT,go_sem,Nat.reduceEqDiff,↓reduceIte,reduceCtorEq,encFs_length,hlen,decide_true,Bool.not_true];first|exact rfl|((repeat refine ai ?_);intros;apply hk;clear hk K)))|apply qw1|refine qwc lvT4_19 ?_|apply qt1|apply qw5|apply qw2|apply qj4)
   refine s_loop (ι:=Nat) (fun k=>[(0,.seq (encFs a)),(1,.seq (encFs b)),(5,.int .i64 k)]) (fun _=>[]) 0 (fun k=>k≤a.length∧a.take k=b.take k) (fun k=>a.length - k) 0 (by omega) ⟨Nat.zero_le _,rfl⟩ ?_ ?_
   · simp [fits,fitsT,fitsM,upd_def,PV.nmb]
   rintro k ⟨hk,ht⟩
   simp only [mkS,mkT,mkM]
   by_cases hkl:k<a.length
   · obtain ⟨⟨xn,xt,xb,xi⟩,hx⟩:=get_some (xs:=a) (k:=k) hkl
     obtain ⟨⟨yn,yt,yb,yi⟩,hy⟩:=get_some (xs:=b) (k:=k) (by omega)
     have hxo:=okF_one ha hx
     have hyo:=okF_one hb hy
     repeat' (first|((first|apply qwd|apply qa1|apply qa3|apply qcd);(try intro K hk);focus (simp only [lvT4_19,mkT,go_sem,Nat.reduceEqDiff,Nat.reduceAdd,Nat.reduceLeDiff,↓reduceIte,reduceCtorEq,encFs_length,hga,hgb,hx,hy,Option.map_some,hlen,ex_FD,encF_mk,strs_inj];first|exact rfl|((repeat refine ai ?_);intros;apply hk;clear hk K)))|apply qw1|refine qwc lvT4_19 ?_|apply qt1|apply qw5|apply qw2|apply qw9|apply qt3|apply qt4|apply qt6|apply qw4|apply qj1|apply qj4|(refine qj6 ?_ ?_<;>intro hc<;>(try simp only [hc])<;>(try simp only [decide_eq_true_eq,decide_eq_false_iff_not,Bool.not_eq_true',Bool.not_eq_false'] at hc)<;>(try (exfalso;omega)))|(refine qw7 ?_ ?_ ?_;(focus (decide +kernel));(focus (decide +kernel))))
     all_goals first
      | (((first|refine fin_ret ?_|refine fin_end ?_);simp only [go_sem,↓upd_def,↓reduceIte])
         refine K_bool hK ?_
         rw [decide_eq_false]
         rintro rfl
         rw [hx] at hy
         simp only [Option.some.injEq] at hy
         simp_all;done)
      | (refine s_again (k+1) ?_ ?_ ?_<;>(first|omega|(dsimp only;omega)|skip)
         · refine ⟨by omega,?_⟩
           rw [take_snoc' hx,take_snoc' hy,ht]
           simp_all;done
         · simp [fits,fitsT,fitsM,upd_def,PV.nmb])
      | skip
   · obtain rfl:k=a.length:=by omega
     repeat' (first|((first|apply qwd|apply qa1|apply qcd);(try intro K hk);focus (simp only [lvT4_19,mkT,go_sem,Nat.reduceEqDiff,↓reduceIte,reduceCtorEq,encFs_length,hlen];first|exact rfl|((repeat refine ai ?_);intros;apply hk;clear hk K)))|apply qw1|refine qwc lvT4_19 ?_|apply qt1|apply qt2|apply qt5|apply qw3|apply qw4|apply qj4|(refine qj6 ?_ ?_<;>intro hc<;>(try simp only [hc])<;>(try simp only [decide_eq_true_eq,decide_eq_false_iff_not] at hc)<;>(try (exfalso;omega))))
     ((first|refine fin_ret ?_|refine fin_end ?_);simp only [go_sem,↓upd_def,↓reduceIte])
     refine K_bool hK ?_
     rw [List.take_length,hlen,List.take_length] at ht
     rw [decide_eq_true ht]
 · repeat' (first|((first|apply qwd|apply qa1|apply qcd);(try intro K hk);focus (simp only [lvT4_19,mkT,go_sem,Nat.reduceEqDiff,↓reduceIte,reduceCtorEq,encFs_length,hlen,decide_false,Bool.not_false];first|exact rfl|((repeat refine ai ?_);intros;apply hk;clear hk K)))|apply qw1|refine qwc lvT4_19 ?_|apply qt1|apply qt3|apply qw4|apply qj1)
   ((first|refine fin_ret ?_|refine fin_end ?_);simp only [go_sem,↓upd_def,↓reduceIte])
   refine K_bool hK ?_
   rw [decide_eq_false]
   rintro rfl
   exact hlen rfl
theorem wtF_mem: ∀ {l:List FieldD} {f:FieldD},f ∈ l→wtF f≤wtFs l
 | g::r,f,hf=>by
   have e:wtFs (g::r)=wtF g+wtFs r:=by simp [wtFs]
   rcases List.mem_cons.1 hf with rfl|hf
   · omega
   · have:=wtF_mem hf;omega
theorem ok_items {l:List FieldD} (hw:l.length+wtFs l≤1048576):l.length≤1048576∧ ∀ f ∈ l,f.items.length≤1048576:=by
 refine ⟨by omega,fun f hf=>?_⟩
 have:=wtF_mem hf
 unfold wtF at this
 omega
end Go.Proofs.YtnbjogilidfkdaaGreat
