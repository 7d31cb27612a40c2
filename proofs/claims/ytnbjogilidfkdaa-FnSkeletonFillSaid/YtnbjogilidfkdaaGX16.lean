/- Contracts: data (valueOk, fieldIn, within; the reference's l11Value, l11Find, l11With). -/
import Derived.Test.YtnbjogilidfkdaaGX9
import Derived.Test.YtnbjogilidfkdaaGK3
import Derived.Test.YtnbjogilidfkdaaGF12

namespace Go.Proofs.Ytnbjogilidfkdaa
attribute [local irreducible] awp arun acalm FinP Fin AX.then AX.inBlock Again aG gsel amix amixN amixC aop aopc aopd cutK
attribute [local go_sem] aBSliceD aSlice aSliceC boundOf aMk aCall aCallC aLenL aLen aPick_t aPick_f aNil aAlloc aBox aBuild bldPV aBSlice bsPV aApp newsOf destOf drp aConvX aConv aConvInt aLoad cellsAt aStore cellsPV setAt aFld aField aIdx aIndex aUn aBin' aBin aMax aExtract pvOf PV.isCell nmbL PV.nmb List.map_cons List.map_nil List.all_cons List.all_nil Bool.and_true Bool.true_and if_true if_false List.getD_cons_zero List.getD_cons_succ List.getD_nil Option.isSome_some true_and and_true and_self eq_self true_or or_true List.drop_zero List.drop_succ_cons List.drop_nil List.take_zero List.take_succ_cons List.take_nil List.length_cons List.length_nil List.length_map Option.getD_some Option.getD_none List.nil_append List.cons_append List.append_nil Option.some.injEq exists_eq_left' List.getElem?_cons_zero List.getElem?_cons_succ Int.toNat_natCast Int.natCast_inj toNat_succ Nat.zero_add res res1 resC owns owns1 ownsC List.flatMap_cons List.flatMap_nil List.flatten_cons List.flatten_nil List.mem_cons List.not_mem_nil or_false false_or forall_eq forall_eq_or_imp isFro frz frz1 pureC tabA isBld List.cons.injEq PV.seq.injEq PV.int.injEq PV.str.injEq PV.bool.injEq PV.agg.injEq inR tab Γof aRes packR Option.map_some Option.map_none rel Prod.exists exists_and_left exists_eq_left and_assoc beq_self_eq_true Bool.not_true Bool.not_false decide_true decide_false List.set_cons_zero List.set_cons_succ rst_nil rst_cons
attribute [local go_sem ↓] evT upd_def aop aopc aopd
set_option maxRecDepth 100000
set_option linter.unusedVariables false
set_option linter.unusedSimpArgs false
open Go.RowKit
def lvX16_65:Nat→List Nat
 | 0=>[0]
 | 1=>[0,11]
 | 2=>[2]
 | 3=>[0,12,13,14]
 | 4=>[0,12,13,14,15]
 | 5=>[0,3,4,12,13,14]
 | 6=>[0,3,4,12,13,14,34]
 | 7=>[2]
 | 8=>[0,3,4,12,13,14,36,37,38]
 | 9=>[0,3,4,12,13,14,36,37,38,39]
 | 10=>[0,3,4,6,12,13,14,36,37,38]
 | 11=>[0,3,4,12,13,14,36,37,38,44]
 | 12=>[2]
 | 13=>[0,3,4,12,13,14,36,37,38]
 | 14=>[0,4,12,13,14,48,49,50]
 | 15=>[0,4,12,13,14,48,49,50,51]
 | 16=>[0,4,8,12,13,14,48,49,50]
 | 17=>[0,4,12,13,14,48,49,50,58]
 | 18=>[2]
 | 19=>[0,4,12,13,14,48,49,50]
 | 20=>[0,12,13,14]
 | 21=>[2]
 | _=>[]
def lvX16_83:Nat→List Nat
 | 0=>[0]
 | 1=>[0,3]
 | 2=>[0,3,10]
 | 3=>[0,3]
 | 4=>[0,3,4]
 | 5=>[0,3,4,32]
 | 6=>[2]
 | 7=>[0,3,4,5]
 | 8=>[0,3,4,5,37]
 | 9=>[0,3,4,5]
 | 10=>[0,3,4,5,46]
 | 11=>[2]
 | 12=>[0,3,4,6]
 | 13=>[0,3,4,6,49]
 | 14=>[0,3,4,6]
 | 15=>[0,3,4,6,59]
 | 16=>[2]
 | 17=>[2]
 | _=>[]
def lvX16_102:Nat→List Nat
 | 0=>[0,1,4]
 | 1=>[1,4,8,9,10]
 | 2=>[1,4,8,9,10,11]
 | 3=>[1,4,7,8,9,10]
 | 4=>[1,4,7,8,9,10,17]
 | 5=>[4,7]
 | 6=>[4,5]
 | 7=>[1,4,8,9,10]
 | 8=>[4,5]
 | _=>[]
def lvX16_105:Nat→List Nat
 | 0=>[0,1]
 | 1=>[0,5]
 | 2=>[5,11,12,13]
 | 3=>[5,11,12,13,14]
 | 4=>[5,7,11,12,13]
 | 5=>[5,7,11,12,13,19]
 | 6=>[5,11,12,13]
 | 7=>[5,11,12,13]
 | 8=>[4]
 | _=>[]
--LV=X16
theorem val_i:PureOk Try.prog 101 (strC valB):=by
 refine pure_rel 1 (tab_cons text_i tab_nil) mixed [.tmp 2] Try.func101 rfl rfl (by kernel_rfl) (by kernel_rfl) (fun _=>rfl) (by kernel_rfl) ?_
 rintro s K hl hK
 unfold entry
 repeat' (first|((first|apply qa1|apply qh1|apply qg1 rfl);(try intro K hk);focus (simp only [go_sem,Nat.reduceEqDiff,↓reduceIte,reduceCtorEq];first|exact rfl|((repeat refine ai ?_);intros;apply hk;clear hk K)))|apply qw8|apply qw1|apply qw6|apply qt1|apply qw4|apply qj1|apply qj4|apply qu1|(refine qj6 ?_ ?_<;>intro hc<;>(try simp only [hc])<;>(try simp only [decide_eq_true_eq,decide_eq_false_iff_not] at hc)<;>(try (exfalso;omega))))
 all_goals
  ((first|refine fin_ret ?_|refine fin_end ?_);simp only [go_sem,↓upd_def,↓reduceIte])
  refine K_bool hK ?_
  unfold valB
  first
   | (rw [decide_eq_true (by omega),Bool.true_and];done)
   | (rw [decide_eq_true (by omega)];simp [*];done)
   | (rw [decide_eq_false (by omega)];rfl)
theorem val_s:PureOk Try.prog 128 (strC valB):=by
 refine pure_rel 1 (tab_cons text_s tab_nil) mixed [.tmp 2] Try.func128 rfl rfl (by kernel_rfl) (by kernel_rfl) (fun _=>rfl) (by kernel_rfl) ?_
 rintro s K hl hK
 unfold entry
 repeat' (first|((first|apply qa1|apply qh1|apply qg1 rfl);(try intro K hk);focus (simp only [go_sem,Nat.reduceEqDiff,↓reduceIte,reduceCtorEq];first|exact rfl|((repeat refine ai ?_);intros;apply hk;clear hk K)))|apply qw8|apply qw1|apply qw6|apply qt1|apply qw4|apply qj1|apply qj4|apply qu1|(refine qj6 ?_ ?_<;>intro hc<;>(try simp only [hc])<;>(try simp only [decide_eq_true_eq,decide_eq_false_iff_not] at hc)<;>(try (exfalso;omega))))
 all_goals
  ((first|refine fin_ret ?_|refine fin_end ?_);simp only [go_sem,↓upd_def,↓reduceIte])
  refine K_bool hK ?_
  unfold valB
  first
   | (rw [decide_eq_true (by omega),Bool.true_and];done)
   | (rw [decide_eq_true (by omega)];simp [*];done)
   | (rw [decide_eq_false (by omega)];rfl)
@[go_sem] def fdC (out:List FieldD×Bs→PV):PC:=rel (α:=List FieldD×Bs) (fun x=>[.seq (encFs x.1),.str x.2]) (fun x=>x.1.length≤1000∧dBd x.1∧x.2.length≤9223372036854775807) out
theorem find_at {l:List FieldD} {k:Nat} {f:FieldD} (hx:l[k]?=some f) (n:Bs):findF (l.drop k) n=if f.name=n then f else findF (l.drop (k+1)) n:=by
 rw [drop_at hx,findF]
theorem has_at {l:List FieldD} {k:Nat} {f:FieldD} (hx:l[k]?=some f) (n:Bs):hasF (l.drop k) n=(decide (f.name=n) || hasF (l.drop (k+1)) n):=by
 rw [drop_at hx];unfold hasF;rw [List.any_cons]
set_option maxHeartbeats 8000000 in
theorem fld_i:PureOk Try.prog 102 (fdC fun x=> .tup [.agg (encF (findF x.1 x.2)),.bool (hasF x.1 x.2)]):=by
 refine pure_rel 2 tab_nil mixed [.cell 4 47,.tmp 5] Try.func102 rfl rfl (by kernel_rfl) (by kernel_rfl) (fun _=>rfl) (by kernel_rfl) ?_
 rintro ⟨l,n⟩ K ⟨hl,hok,hn⟩ hK
 dsimp only at *
 have hel:=encFs_length l
 unfold entry
 repeat' (first|((first|apply qwd|apply qa1);(try intro K hk);focus (simp only [lvX16_102,mkT,go_sem,Nat.reduceEqDiff,↓reduceIte,reduceCtorEq,encFs_length];first|exact rfl|((repeat refine ai ?_);intros;apply hk;clear hk K)))|apply qw1|refine qwc lvX16_102 ?_|apply qt1|apply qw5)
 refine s_loop (ι:=Nat) (fun k=>[(1,.str n),(4,.ref 0 0),(8,.seq (encFs l)),(9,.int .i64 l.length),(10,.int .i64 k)]) (fun _=>[(0,.box [.str [],.str [],.bool false,.nil])]) 1 (fun k=>k≤l.length∧findF l n=findF (l.drop k) n∧hasF l n=hasF (l.drop k) n) (fun k=>l.length - k) 0 (by omega) ⟨Nat.zero_le _,rfl,rfl⟩ ?_ ?_
 · simp [fits,fitsT,fitsM,upd_def,PV.nmb,nmbL,MB.nmb]
 rintro k ⟨hk,h1,h2⟩
 simp only [mkS,mkT,mkM]
 by_cases hkl:k<l.length
 · obtain ⟨⟨nm,tx,hd,its⟩,hx⟩:=get_some (xs:=l) (k:=k) hkl
   obtain ⟨o1,o2,o3,o4⟩:=hok _ (List.mem_of_getElem? hx)
   have hget:=encFs_get l
   have hsl:=strs_length its
   have hsa:=strs_all its
   rw [find_at hx] at h1
   rw [has_at hx] at h2
   dsimp only at h1 h2 o1 o2 o3 o4
   repeat' (first|((first|apply qwd|apply qa1|apply qa2|apply qcd);(try intro K hk);focus (simp only [lvX16_102,mkT,go_sem,Nat.reduceEqDiff,Nat.reduceAdd,Nat.reduceLeDiff,↓reduceIte,reduceCtorEq,hget,hx,encF_mk,hsl,hsa,Option.map_some,List.nil_append];first|exact rfl|((repeat refine ai ?_);intros;apply hk;clear hk K)))|apply qw1|refine qwc lvX16_102 ?_|apply qt1|apply qw5|apply qw2|apply qt3|apply qt4|apply qt6|apply qw4|apply qj1|apply qj4|(refine qj6 ?_ ?_<;>intro hc<;>(try simp only [hc])<;>(try simp only [decide_eq_true_eq,decide_eq_false_iff_not] at hc)<;>(try (exfalso;omega))))
   · ((first|refine fin_ret ?_|refine fin_end ?_);simp only [go_sem,↓upd_def,Nat.reduceEqDiff,Nat.reduceAdd,↓reduceIte,reduceCtorEq])
     refine ⟨Nat.le_refl _,K_eq hK ?_⟩
     rw [h1,h2,if_pos ‹_›,decide_eq_true ‹_›,Bool.true_or,encF_mk]
   · rw [if_neg ‹_›] at h1
     rw [decide_eq_false ‹_›,Bool.false_or] at h2
     refine s_again (k+1) ?_ ?_ ?_<;>(first|omega|(dsimp only;omega)|skip)
     · exact ⟨by omega,h1,h2⟩
     · simp [fits,fitsT,fitsM,upd_def,PV.nmb,nmbL,MB.nmb]
 · repeat' (first|((first|apply qwd|apply qa1|apply qa2|apply qcd);(try intro K hk);focus (simp only [lvX16_102,mkT,go_sem,Nat.reduceEqDiff,Nat.reduceAdd,Nat.reduceLeDiff,↓reduceIte];first|exact rfl|((repeat refine ai ?_);intros;apply hk;clear hk K)))|apply qw1|refine qwc lvX16_102 ?_|apply qt1|apply qt2|apply qt5|apply qw3|apply qw4|apply qj4|(refine qj6 ?_ ?_<;>intro hc<;>(try simp only [hc])<;>(try simp only [decide_eq_true_eq,decide_eq_false_iff_not] at hc)<;>(try (exfalso;omega))))
   ((first|refine fin_ret ?_|refine fin_end ?_);simp only [go_sem,↓upd_def,Nat.reduceEqDiff,Nat.reduceAdd,↓reduceIte])
   rw [List.drop_of_length_le (by omega)] at h1 h2
   refine ⟨Nat.le_refl _,K_eq hK ?_⟩
   rw [h1,h2]
   rfl
@[go_sem] def wiC:PC:=rel (α:=List FieldD×Bs) (fun x=>[.seq (encFs x.1),.str x.2]) (fun x=>x.1.length≤1000∧x.2.length≤1000) (fun x=> .seq (encFs (withF x.1 x.2)))
set_option maxHeartbeats 8000000 in
theorem wi_i:PureOk Try.prog 105 wiC:=by
 refine pure_rel 2 tab_nil mixed [.tmp 4] Try.func105 rfl rfl (by kernel_rfl) (by kernel_rfl) (fun _=>rfl) (by kernel_rfl) ?_
 rintro ⟨l,t⟩ K ⟨hl,ht⟩ hK
 dsimp only at *
 have hel:=encFs_length l
 unfold entry
 repeat' (first|((first|apply qwd|apply qa1);(try intro K hk);focus (simp only [lvX16_105,mkT,go_sem,Nat.reduceEqDiff,Nat.reduceAdd,Nat.reduceLT,↓reduceIte,reduceCtorEq,encFs_length];first|exact rfl|((repeat refine ai ?_);intros;apply hk;clear hk K)))|apply qw1|refine qwc lvX16_105 ?_|apply qt1|apply qw5)
 refine s_loop (ι:=Nat) (fun k=>[(5,.own 0),(11,.seq (encFs l)),(12,.int .i64 l.length),(13,.int .i64 k)]) (fun k=>[(0,.row 47 4 (encFs (withF (l.take k) t)))]) 1 (fun k=>k≤l.length) (fun k=>l.length - k) 0 (by omega) (Nat.zero_le _) ?_ ?_
 · simp [fits,fitsT,fitsM,upd_def,PV.nmb,MB.nmb,withF,encFs,encF_mk,itemN,strs]
 rintro k hk
 simp only [mkS,mkT,mkM]
 by_cases hkl:k<l.length
 · obtain ⟨⟨nm,tx,hd,its⟩,hx⟩:=get_some (xs:=l) (k:=k) hkl
   have hget:=encFs_get l
   have hwl:=with_len (l.take k) t
   rw [List.length_take] at hwl
   have hwt:=with_take hx t
   have hea:=encFs_all (withF (l.take k) t)
   dsimp only at hwt
   repeat' (first|((first|apply qwd|apply qa1|apply qa2|apply qcd);(try intro K hk);focus (simp only [lvX16_105,mkT,go_sem,Nat.reduceEqDiff,Nat.reduceAdd,Nat.reduceLeDiff,↓reduceIte,reduceCtorEq,encFs_length,hget,hx,encF_mk,Option.map_some];first|exact rfl|((repeat refine ai ?_);intros;apply hk;clear hk K)))|apply qw1|refine qwc lvX16_105 ?_|apply qt1|apply qw5|apply qw2|apply qt4|apply qj1|apply qj4|(refine qj6 ?_ ?_<;>intro hc<;>(try simp only [hc])<;>(try simp only [decide_eq_true_eq,decide_eq_false_iff_not,Bool.not_eq_true',Bool.not_eq_false'] at hc)<;>(try (exfalso;omega))))
   · refine s_againR (k+1) (fun i=>if i=0 then 3 else i) ?_ ?_ ?_ ?_ ?_ ?_<;>(first|omega|(dsimp only;omega)|(intro i hi;(try dsimp only);(repeat' split)<;>omega)|(intro i j hi hj h;(try dsimp only at h);(repeat' split at h)<;>omega)|skip)
     all_goals (rw [if_neg (show ¬ nm=itemN from ‹_›)] at hwt;simp [fitsTR,fitsMR,PV.ren,MB.ren,upd_def,PV.nmb,MB.nmb,hwt,encFs_append,encFs_one,encF_mk];done)
   · rw [if_pos (show nm=itemN from ‹_›)] at hwt
     refine s_again (k+1) ?_ ?_ ?_<;>(first|omega|(dsimp only;omega)|skip)
     simp [fits,fitsT,fitsM,upd_def,PV.nmb,MB.nmb,hwt]
 · obtain rfl:k=l.length:=by omega
   repeat' (first|((first|apply qwd|apply qa1|apply qcd);(try intro K hk);focus (simp only [lvX16_105,mkT,go_sem,Nat.reduceEqDiff,↓reduceIte];first|exact rfl|((repeat refine ai ?_);intros;apply hk;clear hk K)))|apply qw1|refine qwc lvX16_105 ?_|apply qt1|apply qt2|apply qt5|apply qw3|apply qw4|apply qj4|(refine qj6 ?_ ?_<;>intro hc<;>(try simp only [hc])<;>(try simp only [decide_eq_true_eq,decide_eq_false_iff_not] at hc)<;>(try (exfalso;omega))))
   ((first|refine fin_ret ?_|refine fin_end ?_);simp only [go_sem,↓upd_def,↓reduceIte])
   rw [List.take_length]
   exact hK
@[go_sem] def dvC:PC:=rel (α:=List FieldD) (fun l=>[.seq (encFs l)]) okF (fun l=> .bool (dataB l))
theorem fld_bad {nm tx:Bs} {hd:Bool} {its:List Bs} (h:nameB nm=false∨valB tx=false∨5<its.length∨its.all valB=false):fldB ⟨nm,tx,hd,its⟩=false:=by
 unfold fldB
 rcases h with h|h|h|h
 · simp [h]
 · simp [h]
 · have:decide (its.length≤5)=false:=decide_eq_false (by omega)
   simp [this]
 · simp only [h,Bool.and_false]
theorem fld_good {nm tx:Bs} {hd:Bool} {its:List Bs} (h1:nameB nm=true) (h2:valB tx=true) (h3: ¬ 5<its.length) (h4:its.all valB=true):fldB ⟨nm,tx,hd,its⟩=true:=by
 unfold fldB
 have:decide (its.length≤5)=true:=decide_eq_true (by omega)
 simp only [h1,h2,h4,this,Bool.and_true]
theorem data_bad {l:List FieldD} {k:Nat} {f:FieldD} (hx:l[k]?=some f) (h:fldB f=false∨hasF (l.take k) f.name=true):dataB l=false:=by
 unfold dataB
 rw [datL_fail hx (by rcases h with h|h<;>simp [h])];simp
theorem data_next {l:List FieldD} {k:Nat} {f:FieldD} (hx:l[k]?=some f) (h:datL [] (l.take k)=true) (h1:fldB f=true) (h2:hasF (l.take k) f.name=false):datL [] (l.take (k+1))=true:=by
 rw [datL_take hx,h,h1,h2];rfl
set_option maxHeartbeats 8000000 in
theorem dv_i:PureOk Try.prog 65 dvC:=by
 refine pure_rel 1 (tab_cons name_i (tab_cons val_i tab_nil)) mixed [.tmp 2] Try.func65 rfl rfl (by kernel_rfl) (by kernel_rfl) (fun _=>rfl) (by kernel_rfl) ?_
 rintro l K hok hK
 obtain ⟨hl,hall⟩:=id hok
 have hel:=encFs_length l
 unfold entry
 repeat' (first|((first|apply qwd|apply qa1|apply qcd);(try intro K hk);focus (simp only [lvX16_65,mkT,go_sem,Nat.reduceEqDiff,↓reduceIte,reduceCtorEq,encFs_length];first|exact rfl|((repeat refine ai ?_);intros;apply hk;clear hk K)))|apply qw1|refine qwc lvX16_65 ?_|apply qt1|apply qw5|apply qw2|apply qt3|apply qw4|apply qj1|apply qj4|(refine qj6 ?_ ?_<;>intro hc<;>(try simp only [hc])<;>(try simp only [decide_eq_true_eq,decide_eq_false_iff_not] at hc)<;>(try (exfalso;omega))))
 · ((first|refine fin_ret ?_|refine fin_end ?_);simp only [go_sem,↓upd_def,↓reduceIte])
   refine K_bool hK ?_
   unfold dataB
   rw [decide_eq_false (by omega)];rfl
 refine s_loop (ι:=Nat) (fun k=>[(0,.seq (encFs l)),(12,.seq (encFs l)),(13,.int .i64 l.length),(14,.int .i64 k)]) (fun _=>[]) 0 (fun k=>k≤l.length∧datL [] (l.take k)=true) (fun k=>l.length - k) 0 (by omega) ⟨Nat.zero_le _,rfl⟩ ?_ ?_
 · simp [fits,fitsT,fitsM,upd_def,PV.nmb]
 rintro k ⟨hk,hd0⟩
 simp only [mkS,mkT,mkM]
 by_cases hkl:k<l.length
 · obtain ⟨⟨nm,tx,hd,its⟩,hx⟩:=get_some (xs:=l) (k:=k) hkl
   obtain ⟨o1,o2,o3,o4⟩:=okF_get hok hx
   have hget:=encFs_get l
   have hsl:=strs_length its
   dsimp only at o1 o2 o3 o4
   repeat' (first|((first|apply qwd|apply qa1|apply qa2|apply qh1|apply qg1 rfl|apply qcd);(try intro K hk);focus (simp only [lvX16_65,mkT,go_sem,Nat.reduceEqDiff,Nat.reduceAdd,Nat.reduceLeDiff,↓reduceIte,reduceCtorEq,hget,hx,encF_mk,Option.map_some,hsl];first|exact rfl|((repeat refine ai ?_);intros;apply hk;clear hk K)))|apply qw1|refine qwc lvX16_65 ?_|apply qt1|apply qw5|apply qw2|apply qt3|apply qt6|apply qw4|apply qj1|apply qj2|apply qj3|apply qj4|apply qu1|(refine qj6 ?_ ?_<;>intro hc<;>(try simp only [hc])<;>(try simp only [decide_eq_true_eq,decide_eq_false_iff_not,Bool.not_eq_true',Bool.not_eq_false'] at hc)<;>(try (exfalso;omega))))
   · ((first|refine fin_ret ?_|refine fin_end ?_);simp only [go_sem,↓upd_def,↓reduceIte])
     exact K_bool hK (data_bad hx (.inl (fld_bad (.inl ‹_›))))
   · ((first|refine fin_ret ?_|refine fin_end ?_);simp only [go_sem,↓upd_def,↓reduceIte])
     exact K_bool hK (data_bad hx (.inl (fld_bad (.inr (.inl ‹_›)))))
   · ((first|refine fin_ret ?_|refine fin_end ?_);simp only [go_sem,↓upd_def,↓reduceIte])
     exact K_bool hK (data_bad hx (.inl (fld_bad (.inr (.inr (.inl (by omega)))))))
   have hn1:nameB nm=true:= ‹_›
   have hv1:valB tx=true:= ‹_›
   have hi1: ¬ 5<its.length:=by omega
   refine s_loop (ι:=Nat) (fun j=>[(0,.seq (encFs l)),(3,.int .i64 k),(4,.ref 0 0),(12,.seq (encFs l)),(13,.int .i64 l.length),(14,.int .i64 k),(36,.seq (strs its)),(37,.int .i64 its.length),(38,.int .i64 j)]) (fun _=>[(0,.box [.str nm,.str tx,.bool hd,.seq (strs its)])]) 1 (fun j=>j≤its.length∧(its.take j).all valB=true) (fun j=>its.length - j) 0 (by omega) ⟨Nat.zero_le _,rfl⟩ ?_ ?_
   · simp [fits,fitsT,fitsM,upd_def,PV.nmb,nmbL,MB.nmb]
   rintro j ⟨hj,hja⟩
   simp only [mkS,mkT,mkM]
   by_cases hjl:j<its.length
   · obtain ⟨t,ht⟩:=get_some (xs:=its) (k:=j) hjl
     have hgs:=strK_get its
     have hol:=o4 t (List.mem_of_getElem? ht)
     have hia:=items_all ht
     repeat' (first|((first|apply qwd|apply qa1|apply qcd);(try intro K hk);focus (simp only [lvX16_65,mkT,go_sem,Nat.reduceEqDiff,↓reduceIte,reduceCtorEq,hgs,ht,Option.map_some];first|exact rfl|((repeat refine ai ?_);intros;apply hk;clear hk K)))|apply qw1|refine qwc lvX16_65 ?_|apply qt1|apply qw5|apply qw2|apply qt3|apply qt4|apply qt6|apply qw4|apply qj1|apply qj4|(refine qj6 ?_ ?_<;>intro hc<;>(try simp only [hc])<;>(try simp only [decide_eq_true_eq,decide_eq_false_iff_not,Bool.not_eq_true',Bool.not_eq_false'] at hc)<;>(try (exfalso;omega))))
     · ((first|refine fin_ret ?_|refine fin_end ?_);simp only [go_sem,↓upd_def,↓reduceIte])
       exact K_bool hK (data_bad hx (.inl (fld_bad (.inr (.inr (.inr (items_bad ht ‹_›)))))))
     · rw [hja,‹valB t=true›] at hia
       refine s_again (j+1) ?_ ?_ ?_<;>(first|omega|(dsimp only;omega)|skip)
       · exact ⟨by omega,hia⟩
       · simp [fits,fitsT,fitsM,upd_def,PV.nmb,nmbL,MB.nmb]
   obtain rfl:j=its.length:=by omega
   rw [List.take_length] at hja
   have hf1:fldB ⟨nm,tx,hd,its⟩=true:=fld_good hn1 hv1 hi1 hja
   have hkle:List.length (List.take k (encFs l))=k:=by rw [List.length_take,encFs_length];omega
   have hea:=encFs_all l
   repeat' (first|((first|apply qwd|apply qa1|apply qcd);(try intro K hk);focus (simp only [lvX16_65,mkT,go_sem,Nat.reduceEqDiff,↓reduceIte,reduceCtorEq,encFs_length,hkle,hea,List.drop_zero,Int.toNat_natCast];first|exact rfl|((repeat refine ai ?_);intros;apply hk;clear hk K)))|apply qw1|refine qwc lvX16_65 ?_|apply qt1|apply qw5|apply qt2|apply qt5|apply qw3|apply qj4|(refine qj6 ?_ ?_<;>intro hc<;>(try simp only [hc])<;>(try simp only [decide_eq_true_eq,decide_eq_false_iff_not] at hc)<;>(try (exfalso;omega))))
   refine s_loop (ι:=Nat) (fun j=>[(0,.seq (encFs l)),(4,.ref 0 0),(12,.seq (encFs l)),(13,.int .i64 l.length),(14,.int .i64 k),(48,.seq ((encFs l).take k)),(49,.int .i64 k),(50,.int .i64 j)]) (fun _=>[(0,.box [.str nm,.str tx,.bool hd,.seq (strs its)])]) 1 (fun j=>j≤k∧hasF (l.take j) nm=false) (fun j=>k - j) 0 (by omega) ⟨Nat.zero_le _,rfl⟩ ?_ ?_
   · simp [fits,fitsT,fitsM,upd_def,PV.nmb,nmbL,MB.nmb]
   rintro j ⟨hj,hjh⟩
   simp only [mkS,mkT,mkM]
   by_cases hjl:j<k
   · obtain ⟨⟨nm',tx',hd',its'⟩,hy⟩:=get_some (xs:=l) (k:=j) (by omega)
     have hgy:((encFs l).take k)[j]?=some [.str nm',.str tx',.bool hd',.seq (strs its')]:=by
      rw [List.getElem?_take_of_lt hjl,encFs_get,hy];rfl
     have hht:=hasF_take hy nm
     repeat' (first|((first|apply qwd|apply qa1|apply qa2|apply qcd);(try intro K hk);focus (simp only [lvX16_65,mkT,go_sem,Nat.reduceEqDiff,Nat.reduceAdd,Nat.reduceLeDiff,↓reduceIte,reduceCtorEq,hgy];first|exact rfl|((repeat refine ai ?_);intros;apply hk;clear hk K)))|apply qw1|refine qwc lvX16_65 ?_|apply qt1|apply qw5|apply qw2|apply qt3|apply qt4|apply qt6|apply qw4|apply qj1|apply qj4|(refine qj6 ?_ ?_<;>intro hc<;>(try simp only [hc])<;>(try simp only [decide_eq_true_eq,decide_eq_false_iff_not] at hc)<;>(try (exfalso;omega))))
     · ((first|refine fin_ret ?_|refine fin_end ?_);simp only [go_sem,↓upd_def,↓reduceIte])
       refine K_bool hK (data_bad hx (.inr ?_))
       have:=hasF_some (k:=k) hy hjl
       dsimp only at this ⊢
       rwa [‹nm'=nm›] at this
     · rw [hjh,Bool.false_or] at hht
       rw [decide_eq_false ‹_›] at hht
       refine s_again (j+1) ?_ ?_ ?_<;>(first|omega|(dsimp only;omega)|skip)
       · exact ⟨by omega,hht⟩
       · simp [fits,fitsT,fitsM,upd_def,PV.nmb,nmbL,MB.nmb]
   obtain rfl:j=k:=by omega
   repeat' (first|((first|apply qwd|apply qa1|apply qcd);(try intro K hk);focus (simp only [lvX16_65,mkT,go_sem,Nat.reduceEqDiff,↓reduceIte,reduceCtorEq];first|exact rfl|((repeat refine ai ?_);intros;apply hk;clear hk K)))|apply qw1|refine qwc lvX16_65 ?_|apply qt1|apply qt2|apply qt4|apply qt5|apply qw3|apply qj4|(refine qj6 ?_ ?_<;>intro hc<;>(try simp only [hc])<;>(try simp only [decide_eq_true_eq,decide_eq_false_iff_not] at hc)<;>(try (exfalso;omega))))
   refine s_again (j+1) ?_ ?_ ?_<;>(first|omega|(dsimp only;omega)|skip)
   · exact ⟨by omega,data_next hx hd0 hf1 hjh⟩
   · simp [fits,fitsT,fitsM,upd_def,PV.nmb]
 · obtain rfl:k=l.length:=by omega
   repeat' (first|((first|apply qwd|apply qa1|apply qcd);(try intro K hk);focus (simp only [lvX16_65,mkT,go_sem,Nat.reduceEqDiff,↓reduceIte,reduceCtorEq];first|exact rfl|((repeat refine ai ?_);intros;apply hk;clear hk K)))|apply qw1|refine qwc lvX16_65 ?_|apply qt1|apply qt2|apply qt5|apply qw3|apply qw4|apply qj4|(refine qj6 ?_ ?_<;>intro hc<;>(try simp only [hc])<;>(try simp only [decide_eq_true_eq,decide_eq_false_iff_not] at hc)<;>(try (exfalso;omega))))
   ((first|refine fin_ret ?_|refine fin_end ?_);simp only [go_sem,↓upd_def,↓reduceIte])
   rw [List.take_length] at hd0
   refine K_bool hK ?_
   unfold dataB
   rw [hd0,decide_eq_true (by omega)];rfl
set_option maxHeartbeats 8000000 in
theorem dv_s:PureOk Try.prog 83 dvC:=by
 refine pure_rel 1 (tab_cons name_s (tab_cons val_s tab_nil)) mixed [.tmp 2] Try.func83 rfl rfl (by kernel_rfl) (by kernel_rfl) (fun _=>rfl) (by kernel_rfl) ?_
 rintro l K hok hK
 obtain ⟨hl,hall⟩:=id hok
 have hel:=encFs_length l
 unfold entry
 repeat' (first|((first|apply qwd|apply qa1);(try intro K hk);focus (simp only [lvX16_83,mkT,go_sem,↓reduceIte,reduceCtorEq];first|exact rfl|((repeat refine ai ?_);intros;apply hk;clear hk K)))|apply qw1|refine qwc lvX16_83 ?_|apply qt1|apply qw5)
 refine s_loop (ι:=Nat) (fun k=>[(0,.seq (encFs l)),(3,.int .i64 k)]) (fun _=>[]) 0 (fun k=>k≤l.length∧datL [] (l.take k)=true) (fun k=>l.length - k) 0 (by omega) ⟨Nat.zero_le _,rfl⟩ ?_ ?_
 · simp [fits,fitsT,fitsM,upd_def,PV.nmb]
 rintro k ⟨hk,hd0⟩
 simp only [mkS,mkT,mkM]
 by_cases hkl:k<l.length
 · obtain ⟨⟨nm,tx,hd,its⟩,hx⟩:=get_some (xs:=l) (k:=k) hkl
   obtain ⟨o1,o2,o3,o4⟩:=okF_get hok hx
   have hget:=encFs_get l
   have hsl:=strs_length its
   dsimp only at o1 o2 o3 o4
   repeat' (first|((first|apply qwd|apply qa1|apply qa2|apply qh1|apply qg1 rfl|apply qcd);(try intro K hk);focus (simp only [lvX16_83,mkT,go_sem,Nat.reduceEqDiff,Nat.reduceAdd,Nat.reduceLeDiff,↓reduceIte,reduceCtorEq,encFs_length,hget,hx,encF_mk,Option.map_some,hsl];first|exact rfl|((repeat refine ai ?_);intros;apply hk;clear hk K)))|apply qw1|refine qwc lvX16_83 ?_|apply qt1|apply qw5|apply qw2|apply qt3|apply qt6|apply qw4|apply qj1|apply qj2|apply qj3|apply qj4|apply qu1|(refine qj6 ?_ ?_<;>intro hc<;>(try simp only [hc])<;>(try simp only [decide_eq_true_eq,decide_eq_false_iff_not,Bool.not_eq_true',Bool.not_eq_false'] at hc)<;>(try (exfalso;omega))))
   · ((first|refine fin_ret ?_|refine fin_end ?_);simp only [go_sem,↓upd_def,↓reduceIte])
     exact K_bool hK (data_bad hx (.inl (fld_bad (.inl ‹_›))))
   · ((first|refine fin_ret ?_|refine fin_end ?_);simp only [go_sem,↓upd_def,↓reduceIte])
     exact K_bool hK (data_bad hx (.inl (fld_bad (.inr (.inl ‹_›)))))
   · ((first|refine fin_ret ?_|refine fin_end ?_);simp only [go_sem,↓upd_def,↓reduceIte])
     exact K_bool hK (data_bad hx (.inl (fld_bad (.inr (.inr (.inl (by omega)))))))
   have hn1:nameB nm=true:= ‹_›
   have hv1:valB tx=true:= ‹_›
   have hi1: ¬ 5<its.length:=by omega
   refine s_loop (ι:=Nat) (fun j=>[(0,.seq (encFs l)),(3,.int .i64 k),(4,.ref 0 0),(5,.int .i64 j)]) (fun _=>[(0,.box [.str nm,.str tx,.bool hd,.seq (strs its)])]) 1 (fun j=>j≤its.length∧(its.take j).all valB=true) (fun j=>its.length - j) 0 (by omega) ⟨Nat.zero_le _,rfl⟩ ?_ ?_
   · simp [fits,fitsT,fitsM,upd_def,PV.nmb,nmbL,MB.nmb]
   rintro j ⟨hj,hja⟩
   simp only [mkS,mkT,mkM]
   by_cases hjl:j<its.length
   · obtain ⟨t,ht⟩:=get_some (xs:=its) (k:=j) hjl
     have hgs:=strK_get its
     have hol:=o4 t (List.mem_of_getElem? ht)
     have hia:=items_all ht
     repeat' (first|((first|apply qwd|apply qa1|apply qcd);(try intro K hk);focus (simp only [lvX16_83,mkT,go_sem,Nat.reduceEqDiff,↓reduceIte,reduceCtorEq,hgs,ht,Option.map_some,hsl];first|exact rfl|((repeat refine ai ?_);intros;apply hk;clear hk K)))|apply qw1|refine qwc lvX16_83 ?_|apply qt1|apply qw5|apply qw2|apply qt3|apply qt4|apply qt6|apply qw4|apply qj1|apply qj4|(refine qj6 ?_ ?_<;>intro hc<;>(try simp only [hc])<;>(try simp only [decide_eq_true_eq,decide_eq_false_iff_not,Bool.not_eq_true',Bool.not_eq_false'] at hc)<;>(try (exfalso;omega))))
     · ((first|refine fin_ret ?_|refine fin_end ?_);simp only [go_sem,↓upd_def,↓reduceIte])
       exact K_bool hK (data_bad hx (.inl (fld_bad (.inr (.inr (.inr (items_bad ht ‹_›)))))))
     · rw [hja,‹valB t=true›] at hia
       refine s_again (j+1) ?_ ?_ ?_<;>(first|omega|(dsimp only;omega)|skip)
       · exact ⟨by omega,hia⟩
       · simp [fits,fitsT,fitsM,upd_def,PV.nmb,nmbL,MB.nmb]
   obtain rfl:j=its.length:=by omega
   rw [List.take_length] at hja
   have hf1:fldB ⟨nm,tx,hd,its⟩=true:=fld_good hn1 hv1 hi1 hja
   repeat' (first|((first|apply qwd|apply qa1|apply qcd);(try intro K hk);focus (simp only [lvX16_83,mkT,go_sem,Nat.reduceEqDiff,↓reduceIte,reduceCtorEq,hsl,List.drop_zero];first|exact rfl|((repeat refine ai ?_);intros;apply hk;clear hk K)))|apply qw1|refine qwc lvX16_83 ?_|apply qt1|apply qw5|apply qt2|apply qt5|apply qw3|apply qj4|(refine qj6 ?_ ?_<;>intro hc<;>(try simp only [hc])<;>(try simp only [decide_eq_true_eq,decide_eq_false_iff_not] at hc)<;>(try (exfalso;omega))))
   refine s_loop (ι:=Nat) (fun j=>[(0,.seq (encFs l)),(3,.int .i64 k),(4,.ref 0 0),(6,.int .i64 j)]) (fun _=>[(0,.box [.str nm,.str tx,.bool hd,.seq (strs its)])]) 1 (fun j=>j≤k∧hasF (l.take j) nm=false) (fun j=>k - j) 0 (by omega) ⟨Nat.zero_le _,rfl⟩ ?_ ?_
   · simp [fits,fitsT,fitsM,upd_def,PV.nmb,nmbL,MB.nmb]
   rintro j ⟨hj,hjh⟩
   simp only [mkS,mkT,mkM]
   by_cases hjl:j<k
   · obtain ⟨⟨nm',tx',hd',its'⟩,hy⟩:=get_some (xs:=l) (k:=j) (by omega)
     have hht:=hasF_take hy nm
     repeat' (first|((first|apply qwd|apply qa1|apply qa3|apply qcd);(try intro K hk);focus (simp only [lvX16_83,mkT,go_sem,Nat.reduceEqDiff,Nat.reduceAdd,↓reduceIte,reduceCtorEq,hget,hy,encF_mk,Option.map_some];first|exact rfl|((repeat refine ai ?_);intros;apply hk;clear hk K)))|apply qw1|refine qwc lvX16_83 ?_|apply qt1|apply qw5|apply qw2|apply qw9|apply qt3|apply qt4|apply qt6|apply qw4|apply qj1|apply qj4|(refine qj6 ?_ ?_<;>intro hc<;>(try simp only [hc])<;>(try simp only [decide_eq_true_eq,decide_eq_false_iff_not] at hc)<;>(try (exfalso;omega)))|(refine qw7 ?_ ?_ ?_;(focus (decide +kernel));(focus (decide +kernel))))
     · ((first|refine fin_ret ?_|refine fin_end ?_);simp only [go_sem,↓upd_def,↓reduceIte])
       refine K_bool hK (data_bad hx (.inr ?_))
       have:=hasF_some (k:=k) hy hjl
       dsimp only at this ⊢
       rwa [‹nm'=nm›] at this
     · rw [hjh,Bool.false_or] at hht
       rw [decide_eq_false ‹_›] at hht
       refine s_again (j+1) ?_ ?_ ?_<;>(first|omega|(dsimp only;omega)|skip)
       · exact ⟨by omega,hht⟩
       · simp [fits,fitsT,fitsM,upd_def,PV.nmb,nmbL,MB.nmb]
   obtain rfl:j=k:=by omega
   repeat' (first|((first|apply qwd|apply qa1|apply qcd);(try intro K hk);focus (simp only [lvX16_83,mkT,go_sem,Nat.reduceEqDiff,↓reduceIte,reduceCtorEq];first|exact rfl|((repeat refine ai ?_);intros;apply hk;clear hk K)))|apply qw1|refine qwc lvX16_83 ?_|apply qt1|apply qt2|apply qt4|apply qt5|apply qw3|apply qj4|(refine qj6 ?_ ?_<;>intro hc<;>(try simp only [hc])<;>(try simp only [decide_eq_true_eq,decide_eq_false_iff_not] at hc)<;>(try (exfalso;omega))))
   refine s_again (j+1) ?_ ?_ ?_<;>(first|omega|(dsimp only;omega)|skip)
   · exact ⟨by omega,data_next hx hd0 hf1 hjh⟩
   · simp [fits,fitsT,fitsM,upd_def,PV.nmb]
 · obtain rfl:k=l.length:=by omega
   repeat' (first|((first|apply qwd|apply qa1|apply qcd);(try intro K hk);focus (simp only [lvX16_83,mkT,go_sem,Nat.reduceEqDiff,↓reduceIte,reduceCtorEq,encFs_length];first|exact rfl|((repeat refine ai ?_);intros;apply hk;clear hk K)))|apply qw1|refine qwc lvX16_83 ?_|apply qt1|apply qt2|apply qt5|apply qw3|apply qw4|apply qj4|(refine qj6 ?_ ?_<;>intro hc<;>(try simp only [hc])<;>(try simp only [decide_eq_true_eq,decide_eq_false_iff_not] at hc)<;>(try (exfalso;omega))))
   all_goals
    ((first|refine fin_ret ?_|refine fin_end ?_);simp only [go_sem,↓upd_def,↓reduceIte])
    rw [List.take_length] at hd0
    refine K_bool hK ?_
    unfold dataB
    rw [hd0,Bool.and_true,decide_eq_decide]
    omega
end Go.Proofs.Ytnbjogilidfkdaa

/- Contracts: the reference's l12Fill, FillPlain. -/
namespace Go.Proofs.Ytnbjogilidfkdaa
set_option maxRecDepth 100000
set_option linter.unusedVariables false
set_option linter.unusedSimpArgs false
open Go.RowKit
--LV=X24
theorem plW_bd {xs:List PartD} {data:List FieldD} (hg:gdL 3 false xs=true) (hd:dBd data) (hw:wtL xs≤1073741824):plW data xs≤109951162777600:=by
 have:=evL_wt xs 3 data st0 false hg hd
 unfold plW
 omega
theorem dataB_len {l:List FieldD} (h:dataB l=true):l.length≤8:=by
 unfold dataB at h
 simp only [Bool.and_eq_true,decide_eq_true_eq] at h
 exact h.1
end Go.Proofs.Ytnbjogilidfkdaa

/- Two filled templates and their tokens: a hole's value comes back; an address stays safe. Plain. -/
namespace Go.Proofs.Ytnbjogilidfkdaa
set_option maxRecDepth 100000
set_option linter.unusedVariables false
set_option linter.unusedSimpArgs false
open Go.RowKit
def hv1:Bs:=[60,112,32,116,105,116,108,101,61,34]
def hv2:Bs:=[34,62]
end Go.Proofs.Ytnbjogilidfkdaa

/- Data of one shape: the same skeleton. Trusted markup in templates. Plain. -/
namespace Go.Proofs.Ytnbjogilidfkdaa
set_option maxRecDepth 100000
set_option linter.unusedVariables false
set_option linter.unusedSimpArgs false
open Go.RowKit
inductive Path:St→List Ev→List Ev→St→Prop
 | nil (s:St):Path s [] [] s
 | txt {s s':St} (t:Bs) {l m:List Ev} (h:Path (afterS s t) l m s'):Path s (.txt t::l) (.txt t::m) s'
 | hole {s s':St} {f g:FieldD} {l m:List Ev} (hp:placeM s≠0) (hs:f.holds=g.holds) (h:Path (behindM s) l m s'):Path s (.hole f s::l) (.hole g s::m) s'
theorem Path.app {s r q:St} {l m l' m':List Ev} (h:Path s l m r) (h':Path r l' m' q):Path s (l++l') (m++m') q:=by
 induction h with
 | nil s=>exact h'
 | txt t h ih=>exact .txt t (ih h')
 | hole hp hs h ih=>exact .hole hp hs (ih h')
/-- Fields alike but for their texts. -/
def likeF (f g:FieldD):Prop:=f.name=g.name∧f.holds=g.holds∧f.items.length=g.items.length
def likeD:List FieldD→List FieldD→Prop
 | [],[]=>True
 | f::a,g::b=>likeF f g∧likeD a b
 | _,_=>False
theorem like_find: ∀ {a b:List FieldD},likeD a b→ ∀ n,(findF a n).holds=(findF b n).holds∧(findF a n).items.length=(findF b n).items.length
 | [],[],_,n=>⟨rfl,rfl⟩
 | [],_::_,h,n=>h.elim
 | _::_,[],h,n=>h.elim
 | f::a,g::b,h,n=>by
   obtain ⟨⟨h1,h2,h3⟩,h4⟩:=h
   unfold findF
   rw [← h1]
   split
   · exact ⟨h2,h3⟩
   · exact like_find h4 n
theorem like_with {a b:List FieldD} (h:likeD a b) (t u:Bs):likeD (withF a t) (withF b u):=by
 refine ⟨⟨rfl,rfl,rfl⟩,?_⟩
 have key: ∀ {a b:List FieldD},likeD a b→likeD (a.filter fun f=>!decide (f.name=itemN)) (b.filter fun f=>!decide (f.name=itemN)):=by
  intro a
  induction a with
  | nil=>intro b h;cases b with
    | nil=>trivial
    | cons g b=>exact h.elim
  | cons f a ih =>
    intro b h
    cases b with
    | nil=>exact h.elim
    | cons g b =>
      obtain ⟨h1,h2⟩:=h
      have ih:=ih h2
      rw [List.filter_cons,List.filter_cons,h1.1]
      split
      · exact ⟨h1,ih⟩
      · exact ih
 exact key h
theorem path_flat {s:St} {g h:Bs→List Ev}: ∀ (l m:List Bs),l.length=m.length→(∀ x ∈ l,∀ y ∈ m,Path s (g x) (h y) s)→Path s (l.flatMap g) (m.flatMap h) s
 | [],[],_,_=> .nil s
 | [],_::_,e,_=>by cases e
 | _::_,[],e,_=>by cases e
 | x::l,y::m,e,hp=>by
   rw [List.flatMap_cons,List.flatMap_cons]
   exact (hp x (by simp) y (by simp)).app (path_flat l m (by simpa using e) (fun a ha b hb=>hp a (by simp [ha]) b (by simp [hb])))
mutual
theorem ev_pathP: ∀ (x:PartD) (d:Nat) (a b:List FieldD) (s:St),gdP d x=true→(chkP s x).mode≠15→stV s=true→likeD a b→Path s (evP a s x).1 (evP b s x).1 (chkP s x)
 | .mk k t n ps os,d,a,b,s,hg,hm,hv,hl=>by
   have hst:=ev_chkP (.mk k t n ps os) d a s hg hm
   obtain ⟨hf1,hf2⟩:=like_find hl n
   rw [gdP_mk] at hg
   rw [chkP_mk] at hm ⊢
   rw [evP_mk,evP_mk]
   by_cases k1:k=1
   · rw [if_pos k1,if_pos k1,if_pos k1]
     exact .txt t (.nil _)
   rw [if_neg k1] at hg hm ⊢
   rw [if_neg k1,if_neg k1]
   by_cases k2:k=2
   · rw [if_pos k2] at hm ⊢
     rw [if_pos k2,if_pos k2]
     refine .hole (fun hp=>?_) hf1 (.nil _)
     have:behindM s=bad:=by unfold behindM;rw [if_pos hp]
     rw [this] at hm
     exact hm rfl
   rw [if_neg k2] at hg hm ⊢
   rw [if_neg k2,if_neg k2]
   by_cases k34:k=3∨k=4
   · rw [if_pos k34] at hg
     simp only [Bool.and_eq_true] at hg
     by_cases k4:k=4
     · rw [if_pos k4] at hm ⊢
       rw [if_neg (show ¬ k=3 by omega),if_pos k4,if_neg (show ¬ k=3 by omega),if_pos k4]
       by_cases e:chkL s ps=s
       · rw [if_pos e] at hm ⊢
         refine path_flat _ _ hf2 fun it _ it' _=>?_
         have h9:=ev_pathL ps (d - 1) (withF a it) (withF b it') s false hg.1.2 (by rw [e];exact hm) hv (like_with hl it it')
         rw [e] at h9
         exact h9
       · rw [if_neg e] at hm;exact absurd rfl hm
     · rw [if_neg k4] at hm ⊢
       rw [if_pos (show k=3 by omega),if_pos (show k=3 by omega),← hf1]
       by_cases e:chkL s ps=chkL s os
       · rw [if_pos e] at hm ⊢
         split
         · exact ev_pathL ps (d - 1) a b s false hg.1.2 hm hv hl
         · rw [e] at hm ⊢;exact ev_pathL os (d - 1) a b s false hg.2 hm hv hl
       · rw [if_neg e] at hm;exact absurd rfl hm
   · rw [if_neg k34] at hg;cases hg
theorem ev_pathL: ∀ (xs:List PartD) (d:Nat) (a b:List FieldD) (s:St) (q:Bool),gdL d q xs=true→(chkL s xs).mode≠15→stV s=true→likeD a b→Path s (evL a s xs).1 (evL b s xs).1 (chkL s xs)
 | [],d,a,b,s,q,_,_,_,_=>by rw [evL_nil,evL_nil,chkL_nil];exact .nil s
 | x::xs,d,a,b,s,q,hg,hm,hv,hl=>by
   rw [gdL] at hg
   simp only [Bool.and_eq_true] at hg
   rw [chkL_cons] at hm ⊢
   rw [evL_cons,evL_cons]
   by_cases e:(chkP s x).mode=15
   · rw [if_pos e] at hm;exact absurd rfl hm
   · rw [if_neg e] at hm ⊢
     have h1:=ev_pathP x d a b s hg.1.1 e hv hl
     have h2:=ev_chkP x d a s hg.1.1 e
     have h3:=ev_chkP x d b s hg.1.1 e
     rw [h2,h3]
     have hv2:stV (chkP s x)=true:=by
      have:=stV_chkL [x] s hv
      rw [chkL_cons,if_neg e,chkL_nil] at this
      exact this
     exact h1.app (ev_pathL xs d a b _ _ hg.2 hm hv2 hl)
end
def sk1 (t:TokD):List Bs :=
 if t.kind=2 then [60::t.name++t.pairs.flatMap fun p=>32::p.1]
 else if t.kind=3 then [47::t.name]
 else if t.kind=4 then [[33]]
 else if t.kind=5 then [[36]]
 else []
def skelM (l:List TokD):List Bs:=l.flatMap sk1
theorem skel_app (a b:List TokD):skelM (a++b)=skelM a++skelM b:=List.flatMap_append
theorem skel_text (v:Bs):skelM [tkText v]=[]:=rfl
theorem skel_open {n:Bs} {ps qs:List (Bs×Bs)} (h:ps.map Prod.fst=qs.map Prod.fst):skelM [tkOpen n (unPs ps)]=skelM [tkOpen n (unPs qs)]:=by
 have e: ∀ l:List (Bs×Bs),(unPs l).flatMap (fun p=>(32:UInt8)::p.1)=(l.map Prod.fst).flatMap fun n=>32::n:=by
  intro l
  unfold unPs
  rw [List.flatMap_map,List.flatMap_map]
 simp [skelM,sk1,tkOpen,e,h]
structure Sk (s:St) (x y:TkI):Prop where
 okx:TkOk x
 oky:TkOk y
 sx:sim s x.s
 sy:sim s y.s
 out:skelM x.out=skelM y.out
 ps:x.ps.map Prod.fst=y.ps.map Prod.fst
 raw:11≤s.mode∧s.mode≤14→x.raw=y.raw∨((if s.mode=12∨s.mode=13 then 1 else 2)≤x.raw.length∧(if s.mode=12∨s.mode=13 then 1 else 2)≤y.raw.length)
 ne:s.mode=12∨s.mode=13→1≤x.raw.length∧1≤y.raw.length
theorem last_names (g:Bs→Bs) (h h':Bs×Bs→Bs): ∀ {l m:List (Bs×Bs)},l.map Prod.fst=m.map Prod.fst→(lastP (fun p=>(g p.1,h p)) l).map Prod.fst=(lastP (fun p=>(g p.1,h' p)) m).map Prod.fst
 | [],[],_=>rfl
 | [],_::_,e=>by cases e
 | _::_,[],e=>by cases e
 | [p],[q],e=>by
   have e1:p.1=q.1:=by simpa using e
   simp [lastP,e1]
 | [p],q::r::m,e=>by simp at e
 | p::q::l,[r],e=>by simp at e
 | p::q::l,p'::q'::m,e=>by
   simp only [List.map_cons,List.cons.injEq] at e
   have:=last_names g h h' (l:=q::l) (m:=q'::m) (by simp [e.2.1,e.2.2])
   simp only [lastP,List.map_cons,e.1]
   rw [this]
set_option maxHeartbeats 8000000 in
theorem sk_step {s:St} {x y x' y':TkI} {b:UInt8} (h:Sk s x y) (ex:tkStep x b=some x') (ey:tkStep y b=some y'):Sk (step s b) x' y':=by
 have hx:=step_sim h.sx b
 have hy:=step_sim h.sy b
 have okx':=tk_ok h.okx ex
 have oky':=tk_ok h.oky ey
 have mx:x.s.mode=s.mode:=h.sx.2.2.1
 have my:y.s.mode=s.mode:=h.sy.2.2.1
 have tx:x.s.tag=s.tag:=h.sx.2.2.2.1
 have ty:y.s.tag=s.tag:=h.sy.2.2.2.1
 have hv:=h.sx.1
 have hsim:=sim_refl (stV_step s b)
 have n15:(step s b).mode≠15:=fun e=>by
  unfold tkStep at ex
  rw [hx,if_pos e] at ex
  cases ex
 have hm:=(step_modes hv b).resolve_left n15
 by_cases hcl:(2≤s.mode∧s.mode≤8)∧((step s b).mode=0∨(step s b).mode=11)
 · have rx:x.raw=[]:=Classical.byContradiction fun h8=>by have:=h.okx.raw h8;omega
   have ry:y.raw=[]:=Classical.byContradiction fun h8=>by have:=h.oky.raw h8;omega
   rw [tkStep_end (by rw [hx];exact n15) (by rw [hx,mx];exact hcl)] at ex
   rw [tkStep_end (by rw [hy];exact n15) (by rw [hy,my];exact hcl)] at ey
   split at ex
   · cases ex
   split at ey
   · cases ey
   cases ex;cases ey
   refine ⟨okx',oky',by rw [hx];exact hsim,by rw [hy];exact hsim,?_,rfl,fun _=> .inl (by rw [rx,ry]),fun h9=>by omega⟩
   dsimp only
   rw [skel_app,skel_app,h.out,tx,ty,skel_open h.ps]
 · rw [tkStep_go (by rw [hx];exact n15) (by rw [hx,mx];exact hcl)] at ex
   rw [tkStep_go (by rw [hy];exact n15) (by rw [hy,my];exact hcl)] at ey
   cases ex;cases ey
   have hlx:=h.okx.less
   have hly:=h.oky.less
   have hr:=h.raw
   have hne:=h.ne
   have ho:=h.out
   have hp:=h.ps
   have zx:=h.okx.z
   have zy:=h.oky.z
   obtain ⟨xs,xr,xp,xo⟩:=x
   obtain ⟨ys,yr,yp,yo⟩:=y
   dsimp only at *
   rw [hx] at okx' ⊢
   rw [hy] at oky' ⊢
   refine ⟨okx',oky',hsim,hsim,?_,?_,?_,?_⟩
   · generalize step s b=n at *
     unfold rawI
     dsimp only
     rw [mx,my,tx,ty]
     rcases hm with ⟨m,m'|m'⟩|⟨m,m'|m'|m'⟩|⟨m,_⟩|⟨m,_⟩|⟨m,_⟩|⟨m,_⟩|⟨m,_⟩|⟨m,_⟩|⟨m,_⟩|⟨m,m'|m'⟩|⟨m,m'|m'⟩|⟨m,m'|m'|m'⟩|⟨m,m'|m'|m'⟩|⟨m,m'⟩|⟨m,m'|m'|m'|m'⟩
     all_goals (try simp only [m'])
     all_goals (try simp only [m])
     all_goals first
      | (simp;exact ho)
      | (simp;(repeat' split)<;>simp [skel_app,skel_text,ho];done)
      | (simp [skel_app,ho];rfl)
      | (have h9:=hr (by omega)
         have hxl:=hlx (mx.trans m)
         have hyl:=hly (my.trans m)
         have e9:(1<xr.length)↔(1<yr.length):=by
          rw [if_neg (by omega)] at h9
          rcases h9 with h9|h9
          · rw [h9]
          · omega
         simp
         by_cases h1:1<xr.length
         · rw [if_pos h1,if_pos (e9.1 h1),skel_app,skel_app,ho];rfl
         · rw [if_neg h1,if_neg (fun h=>h1 (e9.2 h))];exact ho)
      | skip
   · generalize step s b=n at *
     unfold prsI
     dsimp only
     rw [mx,my]
     by_cases c1:s.mode=1∧n.mode=2
     · rw [if_pos c1,if_pos c1]
     rw [if_neg c1,if_neg c1]
     split
     · split
       · rw [List.map_append,List.map_append,hp]
       split
       · exact last_names (fun _=>n.attr) (fun p=>p.2) (fun p=>p.2) hp
       split
       · exact last_names (fun n=>n) (fun p=>p.2++[b]) (fun p=>p.2++[b]) hp
       split
       · rfl
       · exact hp
     · exact hp
   · intro h9
     generalize step s b=n at *
     unfold rawI
     dsimp only
     rw [mx,my]
     by_cases hlow:s.mode<11
     · exfalso
       rcases hm with ⟨m,m'|m'⟩|⟨m,m'|m'|m'⟩|⟨m,_⟩|⟨m,_⟩|⟨m,_⟩|⟨m,_⟩|⟨m,_⟩|⟨m,_⟩|⟨m,_⟩|⟨m,m'|m'⟩|⟨m,m'|m'⟩|⟨m,m'|m'|m'⟩|⟨m,m'|m'|m'⟩|⟨m,m'⟩|⟨m,m'|m'|m'|m'⟩
       all_goals omega
     · have hr':=hr (by omega)
       have c1: ¬ (s.mode=0∧n.mode=0):=by omega
       have c2: ¬ s.mode=0:=by omega
       have c3: ¬ (s.mode=1∧n.mode=2):=by omega
       have c4: ¬ (s.mode=9∧n.mode=0):=by omega
       have c5: ¬ (s.mode=10∧n.mode=0):=by omega
       have c6: ¬ s.mode=10:=by omega
       have c7: ¬ (s.mode=14∧n.mode=9):=by omega
       simp only [if_neg c1,if_neg c2,if_neg c3,if_neg c4,if_neg c5,if_neg c6,if_neg c7,if_pos (show 11≤s.mode by omega)]
       rcases hr' with hr'|hr'
       · exact .inl (by rw [hr'])
       · right
         rw [List.length_append,List.length_append,List.length_singleton]
         (repeat' split at hr')<;>(repeat' split)<;>omega
   · intro h9
     generalize step s b=n at *
     unfold rawI
     dsimp only
     rw [mx,my]
     by_cases hlow:s.mode<11
     · exfalso
       rcases hm with ⟨m,m'|m'⟩|⟨m,m'|m'|m'⟩|⟨m,_⟩|⟨m,_⟩|⟨m,_⟩|⟨m,_⟩|⟨m,_⟩|⟨m,_⟩|⟨m,_⟩|⟨m,m'|m'⟩|⟨m,m'|m'⟩|⟨m,m'|m'|m'⟩|⟨m,m'|m'|m'⟩|⟨m,m'⟩|⟨m,m'|m'|m'|m'⟩
       all_goals omega
     · have c1: ¬ (s.mode=0∧n.mode=0):=by omega
       have c2: ¬ s.mode=0:=by omega
       have c3: ¬ (s.mode=1∧n.mode=2):=by omega
       have c4: ¬ (s.mode=9∧n.mode=0):=by omega
       have c5: ¬ (s.mode=10∧n.mode=0):=by omega
       have c6: ¬ s.mode=10:=by omega
       have c7: ¬ (s.mode=14∧n.mode=9):=by omega
       simp only [if_neg c1,if_neg c2,if_neg c3,if_neg c4,if_neg c5,if_neg c6,if_neg c7,if_pos (show 11≤s.mode by omega)]
       simp
theorem sk_text: ∀ (t:Bs) {s:St} {x y x' y':TkI},Sk s x y→tkFold x t=some x'→tkFold y t=some y'→Sk (run s t) x' y'
 | [],s,x,y,x',y',h,ex,ey=>by cases ex;cases ey;exact h
 | b::t,s,x,y,x',y',h,ex,ey=>by
   rw [tkFold_cons] at ex ey
   cases e1:tkStep x b with
   | none=>rw [e1] at ex;cases ex
   | some x1 =>
     cases e2:tkStep y b with
     | none=>rw [e2] at ey;cases ey
     | some y1 =>
       rw [e1] at ex
       rw [e2] at ey
       rw [run_cons]
       exact sk_text t (sk_step h e1 e2) ex ey
/-- A hole that is filled in changes no names, and no tokens. -/
theorem fold_12: ∀ (t:Bs) (raw:Bs) (out:List TokD),tkFold ⟨s12,raw,[],out⟩ (scrS t)=some ⟨s12,raw++scrS t,[],out⟩
 | [],raw,out=>by show tkFold _ []=_;rw [fold_nil];simp [scrS]
 | b::t,raw,out=>by
   have st: ∀ (s s':St) (c:UInt8) (raw:Bs),(s=s12∨s=s13)→(s'=s12∨s'=s13)→step s c=s'→tkStep ⟨s,raw,[],out⟩ c=some ⟨s',raw++[c],[],out⟩:=by
    intro s s' c raw h1 h2 e
    have m1:s.mode=12∨s.mode=13:=by rcases h1 with rfl|rfl<;>simp [s12,s13]
    have m2:s'.mode=12∨s'.mode=13:=by rcases h2 with rfl|rfl<;>simp [s12,s13]
    rw [tkStep_go (by rw [e];omega) (by dsimp only;rw [e];omega)]
    have c1: ¬ (s.mode=0∧s'.mode=0):=by omega
    have c2: ¬ s.mode=0:=by omega
    have c3: ¬ (s.mode=1∧s'.mode=2):=by omega
    have c4: ¬ (s.mode=9∧s'.mode=0):=by omega
    have c5: ¬ (s.mode=10∧s'.mode=0):=by omega
    have c6: ¬ s.mode=10:=by omega
    have c7: ¬ (s.mode=14∧s'.mode=9):=by omega
    have c8: ¬ (2≤s.mode∧s.mode≤8):=by omega
    simp only [e,rawI,prsI,if_neg c1,if_neg c2,if_neg c3,if_neg c4,if_neg c5,if_neg c6,if_neg c7,if_neg c8,if_pos (show 11≤s.mode by omega)]
   have one:tkFold ⟨s12,raw,[],out⟩ (scr1 b)=some ⟨s12,raw++scr1 b,[],out⟩:=by
    unfold scr1
    split
    · have hb:=byte_split b
      have h1:=hexL_noSp _ hb.1
      have h2:=hexL_noSp _ hb.2
      unfold code4
      have e1:step s12 92=s13:=by rw [step12 (by decide) (by decide)];rfl
      have e2:step s13 120=s12:=step13 (by decide)
      have e3:step s12 (hexL.getD (b.toNat / 16) 0)=s12:=by rw [step12 h1.1 h1.2.1,if_neg h1.2.2]
      have e4:step s12 (hexL.getD (b.toNat % 16) 0)=s12:=by rw [step12 h2.1 h2.2.1,if_neg h2.2.2]
      rw [fold_one (st _ _ _ _ (.inl rfl) (.inr rfl) e1),fold_one (st _ _ _ _ (.inr rfl) (.inl rfl) e2),fold_one (st _ _ _ _ (.inl rfl) (.inl rfl) e3),fold_one (st _ _ _ _ (.inl rfl) (.inl rfl) e4),fold_nil]
      simp
    · rename_i h
      have hs:spec4 b=false:=by simpa using h
      have h60: ∀ c:UInt8,spec4 c=false→c.toNat≠60∧c.toNat≠34∧c.toNat≠92:=all_bytes (by decide)
      obtain ⟨h1,h2,h3⟩:=h60 b hs
      rw [fold_one (st _ _ _ _ (.inl rfl) (.inl rfl) (by rw [step12 h1 h2,if_neg h3])),fold_nil]
   rw [scrS_cons,fold_run one,fold_12 t _ out,List.append_assoc]
theorem tkStep_s {x y:TkI} {b:UInt8} (e:tkStep x b=some y):y.s=step x.s b:=by
 unfold tkStep at e
 split at e
 · cases e
 split at e
 · split at e
   · cases e
   · cases e;rfl
 · cases e;rfl
theorem fold_s: ∀ (t:Bs) {x y:TkI},TkOk x→tkFold x t=some y→y.s=run x.s t
 | [],x,y,_,e=>by cases e;rfl
 | b::t,x,y,h,e=>by
   rw [tkFold_cons] at e
   cases hq:tkStep x b with
   | none=>rw [hq] at e;cases e
   | some z =>
     rw [hq] at e
     rw [run_cons,← tkStep_s hq]
     exact fold_s t (tk_ok h hq) e
theorem hole_fold {s:St} {x:TkI} (hok:TkOk x) (h:sim s x.s) (hp:placeM s≠0) (t:Bs) :
 ∃ x',tkFold x (escFor (placeM s) t)=some x'∧TkOk x'∧sim (behindM s) x'.s∧x'.out=x.out∧x'.ps.map Prod.fst=x.ps.map Prod.fst∧(11≤s.mode→x.raw.length≤x'.raw.length):=by
 have hsim:=hole_sim h hp t
 have hv:=h.1
 have hesc:=escFor_noSp (placeM s) t
 have hq: ∀ b ∈ escFor (placeM s) t,b.toNat≠60∧b.toNat≠62∧b.toNat≠34∧b.toNat≠39:=fun b hb=>noSp_iff.1 (List.all_eq_true.1 hesc b hb)
 obtain ⟨xs,raw,ps,out⟩:=x
 dsimp only at *
 rcases place_mode hp with ⟨m,p⟩|⟨m,p⟩|⟨m,_⟩
 · have e:xs=st0:=(sim_eq h (by omega)).trans (st_mode0 hv m)
   subst e
   have hz:=hok.z (by simp [st0])
   dsimp only at hz
   subst hz
   have hr:=run_text (escFor (placeM s) t) raw out (fun b hb=>(hq b hb).1)
   refine ⟨_,hr,tk_fold_ok _ hok hr,?_,rfl,rfl,fun h9=>by omega⟩
   rw [run0 _ hesc] at hsim
   exact hsim
 · have e:xs=s12:=(sim_eq h (by omega)).trans (st_mode12 hv m)
   subst e
   have hz:=hok.z (by simp [s12])
   dsimp only at hz
   subst hz
   have es:escFor (placeM s) t=scrS t:=by rw [p];rfl
   have hr:=fold_12 t raw out
   refine ⟨_,by rw [es];exact hr,tk_fold_ok _ hok hr,?_,rfl,rfl,fun _=>by simp⟩
   rw [es,run12] at hsim
   exact hsim
 · have hm:xs.mode=6∨xs.mode=7:=by have:=h.2.2.1;omega
   obtain ⟨l,v,hl⟩:=hok.ps (by dsimp only;omega)
   dsimp only at hl
   have hraw:raw=[]:=Classical.byContradiction fun h8=>by have:=hok.raw h8;dsimp only at this;omega
   subst hl hraw
   have hn:=stV_tagN h.2.1 (by omega)
   have ha:=stV_attrN h.2.1 (by omega)
   have hx:xs=⟨xs.mode,xs.tag,xs.attr,xs.seen⟩:=rfl
   rcases hm with hm|hm
   · have hr:=run_val (k:=6) (q:=34) (.inl ⟨rfl,rfl⟩) (escFor (placeM s) t) v xs.tag xs.attr xs.seen l out hn ha (fun b hb=>(hq b hb).2.2.1)
     rw [show (⟨6,xs.tag,xs.attr,xs.seen⟩:St)=xs by rw [← hm]] at hr
     refine ⟨_,hr,tk_fold_ok _ hok hr,?_,rfl,by simp,fun h9=>by omega⟩
     dsimp only
     have hrun:=fold_s _ hok hr
     rw [← hrun] at hsim
     exact hsim
   · have hr:=run_val (k:=7) (q:=39) (.inr ⟨rfl,rfl⟩) (escFor (placeM s) t) v xs.tag xs.attr xs.seen l out hn ha (fun b hb=>(hq b hb).2.2.2)
     rw [show (⟨7,xs.tag,xs.attr,xs.seen⟩:St)=xs by rw [← hm]] at hr
     refine ⟨_,hr,tk_fold_ok _ hok hr,?_,rfl,by simp,fun h9=>by omega⟩
     dsimp only
     have hrun:=fold_s _ hok hr
     rw [← hrun] at hsim
     exact hsim
theorem sk_hole {s:St} {x y x' y':TkI} (h:Sk s x y) (hp:placeM s≠0) {t u:Bs} (ex:tkFold x (escFor (placeM s) t)=some x') (ey:tkFold y (escFor (placeM s) u)=some y'):Sk (behindM s) x' y':=by
 obtain ⟨a,ea,a1,a2,a3,a4,a5⟩:=hole_fold h.okx h.sx hp t
 obtain ⟨b,eb,b1,b2,b3,b4,b5⟩:=hole_fold h.oky h.sy hp u
 rw [ea] at ex
 rw [eb] at ey
 cases ex;cases ey
 have hbm:(behindM s).mode=s.mode:=by
  unfold behindM
  rw [if_neg hp]
  split<;>rfl
 refine ⟨a1,b1,a2,b2,by rw [a3,b3,h.out],by rw [a4,b4,h.ps],fun h9=>?_,fun h9=>?_⟩
 · rw [hbm] at h9 ⊢
   have m12:s.mode=12:=by
    rcases place_mode hp with ⟨m,_⟩|⟨m,_⟩|⟨m,_⟩<;>omega
   have h1:=h.ne (.inl m12)
   have h2:=a5 (by omega)
   have h3:=b5 (by omega)
   right
   rw [if_pos (.inl m12)]
   omega
 · rw [hbm] at h9
   have h1:=h.ne h9
   have h2:=a5 (by omega)
   have h3:=b5 (by omega)
   omega
theorem fold_split {x z:TkI} {t u:Bs} (h:tkFold x (t++u)=some z): ∃ y,tkFold x t=some y∧tkFold y u=some z:=by
 rw [tkFold_append] at h
 cases e:tkFold x t with
 | none=>rw [e] at h;cases h
 | some y=>rw [e] at h;exact ⟨y,rfl,h⟩
theorem sk_path {s s':St} {l m:List Ev} (hp:Path s l m s'): ∀ {x y x' y':TkI},Sk s x y→tkFold x (cat outS l)=some x'→tkFold y (cat outS m)=some y'→Sk s' x' y':=by
 induction hp with
 | nil s=>intro x y x' y' h ex ey;cases ex;cases ey;exact h
 | @txt s s' t l m hq ih =>
   intro x y x' y' h ex ey
   rw [cat_cons] at ex ey
   obtain ⟨x1,e1,ex⟩:=fold_split ex
   obtain ⟨y1,e2,ey⟩:=fold_split ey
   have h1:=sk_text t h e1 e2
   have e9:afterS s t=run s t:=by unfold afterS;rw [if_pos h.sx.1]
   rw [e9] at ih
   exact ih h1 ex ey
 | @hole s s' f g l m hp hs hq ih =>
   intro x y x' y' h ex ey
   rw [cat_cons] at ex ey
   obtain ⟨x1,e1,ex⟩:=fold_split ex
   obtain ⟨y1,e2,ey⟩:=fold_split ey
   exact ih (sk_hole h hp e1 e2) ex ey
theorem sk_start:Sk st0 tkI0 tkI0:=⟨tkI0_ok,tkI0_ok,sim_refl stV_st0,sim_refl stV_st0,rfl,rfl,fun _=> .inl rfl,fun h=>by simp [st0] at h⟩
theorem tok_fin {s:Bs} {l:List TokD} (h:tokM s=some l): ∃ x,tkFold tkI0 s=some x∧skelM l=skelM x.out:=by
 unfold tokM at h
 split at h
 · cases hf:tkFold tkI0 s with
   | none=>rw [hf] at h;cases h
   | some y =>
     rw [hf] at h
     refine ⟨y,rfl,?_⟩
     have h:tkFin y=some l:=h
     unfold tkFin at h
     have hz:skelM (if y.raw=[] then y.out else y.out++[tkText (unT y.raw)])=skelM y.out:=by
      split
      · rfl
      · rw [skel_app,skel_text,List.append_nil]
     generalize (if y.raw=[] then y.out else y.out++[tkText (unT y.raw)])=Z at h hz
     split at h
     · cases h
     split at h
     · cases h
     · cases h
       exact hz
 · cases h
/-- Data of one shape lead to the same skeleton. -/
theorem skel_law {xs:List PartD} {a b:List FieldD} {s t:Bs} {l m:List TokD} (hl:likeD a b) (h1:fillM xs a=some s) (h2:fillM xs b=some t) (h3:tokM s=some l) (h4:tokM t=some m):skelM l=skelM m:=by
 unfold fillM at h1 h2
 split at h1
 · rename_i hs
   split at h2
   · cases h1;cases h2
     obtain ⟨_,hg,hc,hm⟩:=safe_parts hs.1
     have hp:=ev_pathL xs 3 a b st0 false hg hm stV_st0 hl
     obtain ⟨x,ex,e1⟩:=tok_fin h3
     obtain ⟨y,ey,e2⟩:=tok_fin h4
     rw [e1,e2]
     exact (sk_path hp sk_start ex ey).out
   · cases h2
 · cases h1
end Go.Proofs.Ytnbjogilidfkdaa

/- Data alike, skeletons, by steps. Plain. -/
namespace Go.Proofs.Ytnbjogilidfkdaa
set_option maxRecDepth 100000
set_option linter.unusedVariables false
set_option linter.unusedSimpArgs false
open Go.RowKit
def likeFB (f g:FieldD):Bool:=decide (f.name=g.name) && decide (f.holds=g.holds) && decide (f.items.length=g.items.length)
def likeB:List FieldD→List FieldD→Bool
 | [],[]=>true
 | f::a,g::b=>likeFB f g && likeB a b
 | _,_=>false
theorem likeB_D: ∀ {a b:List FieldD},likeB a b=true→likeD a b
 | [],[],_=>trivial
 | f::a,g::b,h=>by
   rw [likeB,Bool.and_eq_true] at h
   obtain ⟨h1,h2⟩:=h
   unfold likeFB at h1
   simp only [Bool.and_eq_true,decide_eq_true_eq] at h1
   exact ⟨⟨h1.1.1,h1.1.2,h1.2⟩,likeB_D h2⟩
 | [],_::_,h=>by cases h
 | _::_,[],h=>by cases h
theorem likeB_len: ∀ {a b:List FieldD},a.length≠b.length→likeB a b=false
 | [],[],h=>absurd rfl h
 | f::a,g::b,h=>by
   rw [likeB,likeB_len (a:=a) (b:=b) (fun e=>h (by simp [e])),Bool.and_false]
 | [],_::_,_=>rfl
 | _::_,[],_=>rfl
theorem likeB_at {a b:List FieldD} {k:Nat} {f g:FieldD} (hf:a[k]?=some f) (hg:b[k]?=some g):likeB (a.drop k) (b.drop k)=(likeFB f g && likeB (a.drop (k+1)) (b.drop (k+1))):=by
 rw [drop_tk hf,drop_tk hg,likeB]
theorem likeB_end {a b:List FieldD} (h:a.length=b.length):likeB (a.drop a.length) (b.drop a.length)=true:=by
 rw [List.drop_length,h,List.drop_length];rfl
/-- Valid data of one shape. -/
def shM (a b:List FieldD):Bool:=dataB a && dataB b && likeB a b
theorem sh_like {a b:List FieldD} (h:shM a b=true):likeD a b:=by
 unfold shM at h
 rw [Bool.and_eq_true] at h
 exact likeB_D h.2
theorem skel_snoc {l:List TokD} {k:Nat} {t:TokD} (h:l[k]?=some t):skelM (l.take (k+1))=skelM (l.take k)++sk1 t:=by
 rw [take_snoc' h,skel_app]
 simp [skelM]
theorem sk_1 (n v:Bs) (ps:List (Bs×Bs)):sk1 ⟨1,n,v,ps⟩=[]:=rfl
theorem sk_2 (n v:Bs) (ps:List (Bs×Bs)):sk1 ⟨2,n,v,ps⟩=[60::n++ps.flatMap fun p=>32::p.1]:=rfl
theorem sk_3 (n v:Bs) (ps:List (Bs×Bs)):sk1 ⟨3,n,v,ps⟩=[47::n]:=rfl
theorem sk_4 (n v:Bs) (ps:List (Bs×Bs)):sk1 ⟨4,n,v,ps⟩=[[33]]:=rfl
theorem sk_5 (n v:Bs) (ps:List (Bs×Bs)):sk1 ⟨5,n,v,ps⟩=[[36]]:=rfl
theorem sk1_len (t:TokD):(sk1 t).length≤1:=by
 unfold sk1
 (repeat' split)<;>simp
theorem skel_len (l:List TokD):(skelM l).length≤l.length:=by
 induction l with
 | nil=>simp [skelM]
 | cons t r ih =>
   have h1:=sk1_len t
   have e:skelM (t::r)=sk1 t++skelM r:=rfl
   rw [e,List.length_append,List.length_cons]
   omega
theorem skP_snoc {ps:List (Bs×Bs)} {j:Nat} {n v:Bs} (h:ps[j]?=some (n,v)):((ps.take (j+1)).flatMap fun p=>(32:UInt8)::p.1)=((ps.take j).flatMap fun p=>(32:UInt8)::p.1)++(32::n):=by
 rw [take_snoc' h,List.flatMap_append]
 simp
theorem skP_len {ps:List (Bs×Bs)} (h: ∀ p ∈ ps,p.1.length≤10):(ps.flatMap fun p=>(32:UInt8)::p.1).length≤ps.length * 11:=by
 induction ps with
 | nil=>simp
 | cons p r ih =>
   rw [List.flatMap_cons,List.length_append,List.length_cons,List.length_cons]
   have h1:=h p List.mem_cons_self
   have h2:=ih (fun q hq=>h q (List.mem_cons_of_mem _ hq))
   omega
theorem skP_take {ps:List (Bs×Bs)} (h: ∀ p ∈ ps,p.1.length≤10) (hl:ps.length≤60) (j:Nat):((ps.take j).flatMap fun p=>(32:UInt8)::p.1).length≤660:=by
 have h1:=skP_len (ps:=ps.take j) (fun p hp=>h p (List.mem_of_mem_take hp))
 rw [List.length_take] at h1
 omega
end Go.Proofs.Ytnbjogilidfkdaa
