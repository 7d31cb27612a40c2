/- Contracts: data (valueOk, fieldIn, within; the reference's l11Value, l11Find, l11With). -/
import Derived.Test.YtnbjogilidfkdaaGreatVX9
import Derived.Test.YtnbjogilidfkdaaGreatVK3

namespace Go.Proofs.YtnbjogilidfkdaaGreat
attribute [local irreducible] awp arun acalm FinP Fin AX.then AX.inBlock Again aG gsel amix amixN amixC aop aopc aopd cutK
attribute [local go_sem] aBSliceD aSlice aSliceC boundOf aMk aCall aCallC aLenL aLen aPick_t aPick_f aNil aAlloc aBox aBuild bldPV aBSlice bsPV aApp newsOf destOf drp aConvX aConv aConvInt aLoad cellsAt aStore cellsPV setAt aFld aField aIdx aIndex aUn aBin' aBin aMax aExtract pvOf PV.isCell nmbL PV.nmb List.map_cons List.map_nil List.all_cons List.all_nil Bool.and_true Bool.true_and if_true if_false List.getD_cons_zero List.getD_cons_succ List.getD_nil Option.isSome_some true_and and_true and_self eq_self true_or or_true List.drop_zero List.drop_succ_cons List.drop_nil List.take_zero List.take_succ_cons List.take_nil List.length_cons List.length_nil List.length_map Option.getD_some Option.getD_none List.nil_append List.cons_append List.append_nil Option.some.injEq exists_eq_left' List.getElem?_cons_zero List.getElem?_cons_succ Int.toNat_natCast Int.natCast_inj toNat_succ Nat.zero_add res res1 resC owns owns1 ownsC List.flatMap_cons List.flatMap_nil List.flatten_cons List.flatten_nil List.mem_cons List.not_mem_nil or_false false_or forall_eq forall_eq_or_imp isFro frz frz1 pureC tabA isBld List.cons.injEq PV.seq.injEq PV.int.injEq PV.str.injEq PV.bool.injEq PV.agg.injEq inR tab Γof aRes packR Option.map_some Option.map_none rel Prod.exists exists_and_left exists_eq_left and_assoc beq_self_eq_true Bool.not_true Bool.not_false decide_true decide_false List.set_cons_zero List.set_cons_succ rst_nil rst_cons
attribute [local go_sem ↓] evT upd_def aop aopc aopd
set_option maxRecDepth 100000
set_option linter.unusedVariables false
set_option linter.unusedSimpArgs false
open Go.RowKit
def lvX16_24:Nat→List Nat
 | 0=>[0]
 | 1=>[0,11]
 | 2=>[2]
 | 3=>[0,12,13,14]
 | 4=>[0,12,13,14,15]
 | 5=>[0,3,4,12,13,14]
 | 6=>[0,3,4,12,13,14,34]
 | 7=>[2]
 | 8=>[0,3,4,12,13,14,36,37,38]
 | 9=>[0,3,4,12,13,14,36,37,38,39]
 | 10=>[0,3,4,6,12,13,14,36,37,38]
 | 11=>[0,3,4,12,13,14,36,37,38,44]
 | 12=>[2]
 | 13=>[0,3,4,12,13,14,36,37,38]
 | 14=>[0,4,12,13,14,48,49,50]
 | 15=>[0,4,12,13,14,48,49,50,51]
 | 16=>[0,4,8,12,13,14,48,49,50]
 | 17=>[0,4,12,13,14,48,49,50,58]
 | 18=>[2]
 | 19=>[0,4,12,13,14,48,49,50]
 | 20=>[0,12,13,14]
 | 21=>[2]
 | _=>[]
def lvX16_33:Nat→List Nat
 | 0=>[0]
 | 1=>[0,3]
 | 2=>[0,3,10]
 | 3=>[0,3]
 | 4=>[0,3,4]
 | 5=>[0,3,4,32]
 | 6=>[2]
 | 7=>[0,3,4,5]
 | 8=>[0,3,4,5,37]
 | 9=>[0,3,4,5]
 | 10=>[0,3,4,5,46]
 | 11=>[2]
 | 12=>[0,3,4,6]
 | 13=>[0,3,4,6,49]
 | 14=>[0,3,4,6]
 | 15=>[0,3,4,6,59]
 | 16=>[2]
 | 17=>[2]
 | _=>[]
def lvX16_56:Nat→List Nat
 | 0=>[0,1,4]
 | 1=>[1,4,8,9,10]
 | 2=>[1,4,8,9,10,11]
 | 3=>[1,4,7,8,9,10]
 | 4=>[1,4,7,8,9,10,17]
 | 5=>[4,7]
 | 6=>[4,5]
 | 7=>[1,4,8,9,10]
 | 8=>[4,5]
 | _=>[]
def lvX16_58:Nat→List Nat
 | 0=>[0,1]
 | 1=>[0,5]
 | 2=>[5,11,12,13]
 | 3=>[5,11,12,13,14]
 | 4=>[5,7,11,12,13]
 | 5=>[5,7,11,12,13,19]
 | 6=>[5,11,12,13]
 | 7=>[5,11,12,13]
 | 8=>[4]
 | _=>[]
def lvX16_70:Nat→List Nat
 | 0=>[0,1,4]
 | 1=>[0,1,4,5]
 | 2=>[0,1,4,5,9]
 | 3=>[0,1,4,5]
 | 4=>[0,1,4,5,18]
 | 5=>[4]
 | 6=>[4]
 | _=>[]
def lvX16_73:Nat→List Nat
 | 0=>[0,1]
 | 1=>[0,5]
 | 2=>[0,5,6]
 | 3=>[0,5,6,13]
 | 4=>[0,5,6]
 | 5=>[0,5,6,21]
 | 6=>[0,5,6]
 | 7=>[4]
 | _=>[]
--LV=X16
theorem val_i:PureOk Tryz.prog 55 (strC valB):=by
 refine pure_rel 1 (tab_cons text_i tab_nil) mixed [.tmp 2] Tryz.func55 rfl rfl (by kernel_rfl) (by kernel_rfl) (fun _=>rfl) (by kernel_rfl) ?_
 rintro s K hl hK
 unfold entry
 repeat' (first|((first|apply qa1|apply qh1|apply qg1 rfl);(try intro K hk);focus (simp only [go_sem,Nat.reduceEqDiff,↓reduceIte,reduceCtorEq];first|exact rfl|((repeat refine ai ?_);intros;apply hk;clear hk K)))|apply qw8|apply qw1|apply qw6|apply qt1|apply qw4|apply qj1|apply qj4|apply qu1|(refine qj6 ?_ ?_<;>intro hc<;>(try simp only [hc])<;>(try simp only [decide_eq_true_eq,decide_eq_false_iff_not] at hc)<;>(try (exfalso;omega))))
 all_goals
  ((first|refine fin_ret ?_|refine fin_end ?_);simp only [go_sem,↓upd_def,↓reduceIte])
  refine K_bool hK ?_
  unfold valB
  first
   | (rw [decide_eq_true (by omega),Bool.true_and];done)
   | (rw [decide_eq_true (by omega)];simp [*];done)
   | (rw [decide_eq_false (by omega)];rfl)
theorem val_s:PureOk Tryz.prog 69 (strC valB):=by
 refine pure_rel 1 (tab_cons text_s tab_nil) mixed [.tmp 2] Tryz.func69 rfl rfl (by kernel_rfl) (by kernel_rfl) (fun _=>rfl) (by kernel_rfl) ?_
 rintro s K hl hK
 unfold entry
 repeat' (first|((first|apply qa1|apply qh1|apply qg1 rfl);(try intro K hk);focus (simp only [go_sem,Nat.reduceEqDiff,↓reduceIte,reduceCtorEq];first|exact rfl|((repeat refine ai ?_);intros;apply hk;clear hk K)))|apply qw8|apply qw1|apply qw6|apply qt1|apply qw4|apply qj1|apply qj4|apply qu1|(refine qj6 ?_ ?_<;>intro hc<;>(try simp only [hc])<;>(try simp only [decide_eq_true_eq,decide_eq_false_iff_not] at hc)<;>(try (exfalso;omega))))
 all_goals
  ((first|refine fin_ret ?_|refine fin_end ?_);simp only [go_sem,↓upd_def,↓reduceIte])
  refine K_bool hK ?_
  unfold valB
  first
   | (rw [decide_eq_true (by omega),Bool.true_and];done)
   | (rw [decide_eq_true (by omega)];simp [*];done)
   | (rw [decide_eq_false (by omega)];rfl)
@[go_sem] def fdC (out:List FieldD×Bs→PV):PC:=rel (α:=List FieldD×Bs) (fun x=>[.seq (encFs x.1),.str x.2]) (fun x=>x.1.length≤1000∧dBd x.1∧x.2.length≤9223372036854775807) out
def fdS (l:List FieldD) (n:Bs):FieldD:=if hasF l n=true then findF l n else ⟨n,[],false,[]⟩
theorem find_at {l:List FieldD} {k:Nat} {f:FieldD} (hx:l[k]?=some f) (n:Bs):findF (l.drop k) n=if f.name=n then f else findF (l.drop (k+1)) n:=by
 rw [drop_at hx,findF]
theorem has_at {l:List FieldD} {k:Nat} {f:FieldD} (hx:l[k]?=some f) (n:Bs):hasF (l.drop k) n=(decide (f.name=n) || hasF (l.drop (k+1)) n):=by
 rw [drop_at hx];unfold hasF;rw [List.any_cons]
set_option maxHeartbeats 8000000 in
theorem fld_i:PureOk Tryz.prog 56 (fdC fun x=> .tup [.agg (encF (findF x.1 x.2)),.bool (hasF x.1 x.2)]):=by
 refine pure_rel 2 tab_nil mixed [.cell 4 46,.tmp 5] Tryz.func56 rfl rfl (by kernel_rfl) (by kernel_rfl) (fun _=>rfl) (by kernel_rfl) ?_
 rintro ⟨l,n⟩ K ⟨hl,hok,hn⟩ hK
 dsimp only at *
 have hel:=encFs_length l
 unfold entry
 repeat' (first|((first|apply qwd|apply qa1);(try intro K hk);focus (simp only [lvX16_56,mkT,go_sem,Nat.reduceEqDiff,↓reduceIte,reduceCtorEq,encFs_length];first|exact rfl|((repeat refine ai ?_);intros;apply hk;clear hk K)))|apply qw1|refine qwc lvX16_56 ?_|apply qt1|apply qw5)
 refine s_loop (ι:=Nat) (fun k=>[(1,.str n),(4,.ref 0 0),(8,.seq (encFs l)),(9,.int .i64 l.length),(10,.int .i64 k)]) (fun _=>[(0,.box [.str [],.str [],.bool false,.nil])]) 1 (fun k=>k≤l.length∧findF l n=findF (l.drop k) n∧hasF l n=hasF (l.drop k) n) (fun k=>l.length - k) 0 (by omega) ⟨Nat.zero_le _,rfl,rfl⟩ ?_ ?_
 · simp [fits,fitsT,fitsM,upd_def,PV.nmb,nmbL,MB.nmb]
 rintro k ⟨hk,h1,h2⟩
 simp only [mkS,mkT,mkM]
 by_cases hkl:k<l.length
 · obtain ⟨⟨nm,tx,hd,its⟩,hx⟩:=get_some (xs:=l) (k:=k) hkl
   obtain ⟨o1,o2,o3,o4⟩:=hok _ (List.mem_of_getElem? hx)
   have hget:=encFs_get l
   have hsl:=strs_length its
   have hsa:=strs_all its
   rw [find_at hx] at h1
   rw [has_at hx] at h2
   dsimp only at h1 h2 o1 o2 o3 o4
   repeat' (first|((first|apply qwd|apply qa1|apply qa2|apply qcd);(try intro K hk);focus (simp only [lvX16_56,mkT,go_sem,Nat.reduceEqDiff,Nat.reduceAdd,Nat.reduceLeDiff,↓reduceIte,reduceCtorEq,hget,hx,encF_mk,hsl,hsa,Option.map_some,List.nil_append];first|exact rfl|((repeat refine ai ?_);intros;apply hk;clear hk K)))|apply qw1|refine qwc lvX16_56 ?_|apply qt1|apply qw5|apply qw2|apply qt3|apply qt4|apply qt6|apply qw4|apply qj1|apply qj4|(refine qj6 ?_ ?_<;>intro hc<;>(try simp only [hc])<;>(try simp only [decide_eq_true_eq,decide_eq_false_iff_not] at hc)<;>(try (exfalso;omega))))
   · ((first|refine fin_ret ?_|refine fin_end ?_);simp only [go_sem,↓upd_def,Nat.reduceEqDiff,Nat.reduceAdd,↓reduceIte,reduceCtorEq])
     refine ⟨Nat.le_refl _,K_eq hK ?_⟩
     rw [h1,h2,if_pos ‹_›,decide_eq_true ‹_›,Bool.true_or,encF_mk]
   · rw [if_neg ‹_›] at h1
     rw [decide_eq_false ‹_›,Bool.false_or] at h2
     refine s_again (k+1) ?_ ?_ ?_<;>(first|omega|(dsimp only;omega)|skip)
     · exact ⟨by omega,h1,h2⟩
     · simp [fits,fitsT,fitsM,upd_def,PV.nmb,nmbL,MB.nmb]
 · repeat' (first|((first|apply qwd|apply qa1|apply qa2|apply qcd);(try intro K hk);focus (simp only [lvX16_56,mkT,go_sem,Nat.reduceEqDiff,Nat.reduceAdd,Nat.reduceLeDiff,↓reduceIte];first|exact rfl|((repeat refine ai ?_);intros;apply hk;clear hk K)))|apply qw1|refine qwc lvX16_56 ?_|apply qt1|apply qt2|apply qt5|apply qw3|apply qw4|apply qj4|(refine qj6 ?_ ?_<;>intro hc<;>(try simp only [hc])<;>(try simp only [decide_eq_true_eq,decide_eq_false_iff_not] at hc)<;>(try (exfalso;omega))))
   ((first|refine fin_ret ?_|refine fin_end ?_);simp only [go_sem,↓upd_def,Nat.reduceEqDiff,Nat.reduceAdd,↓reduceIte])
   rw [List.drop_of_length_le (by omega)] at h1 h2
   refine ⟨Nat.le_refl _,K_eq hK ?_⟩
   rw [h1,h2]
   rfl
set_option maxHeartbeats 8000000 in
theorem fld_s:PureOk Tryz.prog 70 (fdC fun x=> .agg (encF (fdS x.1 x.2))):=by
 refine pure_rel 2 tab_nil mixed [.cell 4 46] Tryz.func70 rfl rfl (by kernel_rfl) (by kernel_rfl) (fun _=>rfl) (by kernel_rfl) ?_
 rintro ⟨l,n⟩ K ⟨hl,hok,hn⟩ hK
 dsimp only at *
 have hel:=encFs_length l
 unfold entry
 repeat' (first|((first|apply qwd|apply qa1);(try intro K hk);focus (simp only [lvX16_70,mkT,go_sem,Nat.reduceEqDiff,↓reduceIte,reduceCtorEq];first|exact rfl|((repeat refine ai ?_);intros;apply hk;clear hk K)))|apply qw1|refine qwc lvX16_70 ?_|apply qt1|apply qw5)
 refine s_loop (ι:=Nat) (fun k=>[(0,.seq (encFs l)),(1,.str n),(4,.ref 0 0),(5,.int .i64 k)]) (fun _=>[(0,.box [.str [],.str [],.bool false,.nil])]) 1 (fun k=>k≤l.length∧findF l n=findF (l.drop k) n∧hasF l n=hasF (l.drop k) n) (fun k=>l.length - k) 0 (by omega) ⟨Nat.zero_le _,rfl,rfl⟩ ?_ ?_
 · simp [fits,fitsT,fitsM,upd_def,PV.nmb,nmbL,MB.nmb]
 rintro k ⟨hk,h1,h2⟩
 simp only [mkS,mkT,mkM]
 by_cases hkl:k<l.length
 · obtain ⟨⟨nm,tx,hd,its⟩,hx⟩:=get_some (xs:=l) (k:=k) hkl
   have hget:=encFs_get l
   have hsl:=strs_length its
   rw [find_at hx] at h1
   rw [has_at hx] at h2
   dsimp only at h1 h2
   repeat' (first|((first|apply qwd|apply qa1|apply qa2|apply qcd);(try intro K hk);focus (simp only [lvX16_70,mkT,go_sem,Nat.reduceEqDiff,Nat.reduceAdd,Nat.reduceLeDiff,↓reduceIte,reduceCtorEq,encFs_length,hget,hx,encF_mk,Option.map_some];first|exact rfl|((repeat refine ai ?_);intros;apply hk;clear hk K)))|apply qw1|refine qwc lvX16_70 ?_|apply qt1|apply qw5|apply qw2|apply qt3|apply qt4|apply qt6|apply qw4|apply qj1|apply qj4|(refine qj6 ?_ ?_<;>intro hc<;>(try simp only [hc])<;>(try simp only [decide_eq_true_eq,decide_eq_false_iff_not] at hc)<;>(try (exfalso;omega))))
   · ((first|refine fin_ret ?_|refine fin_end ?_);simp only [go_sem,↓upd_def,Nat.reduceAdd,↓reduceIte])
     refine ⟨Nat.le_refl _,K_eq hK ?_⟩
     unfold fdS
     rw [h1,h2,decide_eq_true ‹nm=n›,Bool.true_or,if_pos rfl,if_pos ‹nm=n›,encF_mk]
   · rw [if_neg ‹_›] at h1
     rw [decide_eq_false ‹_›,Bool.false_or] at h2
     refine s_again (k+1) ?_ ?_ ?_<;>(first|omega|(dsimp only;omega)|skip)
     · exact ⟨by omega,h1,h2⟩
     · simp [fits,fitsT,fitsM,upd_def,PV.nmb,nmbL,MB.nmb]
 · repeat' (first|((first|apply qwd|apply qa1|apply qa2|apply qcd);(try intro K hk);focus (simp only [lvX16_70,mkT,go_sem,Nat.reduceEqDiff,Nat.reduceAdd,Nat.reduceLeDiff,Nat.reduceLT,↓reduceIte,reduceCtorEq,encFs_length];first|exact rfl|((repeat refine ai ?_);intros;apply hk;clear hk K)))|apply qw1|refine qwc lvX16_70 ?_|apply qt1|apply qt2|apply qt5|apply qw3|apply qw4|apply qj4|(refine qj6 ?_ ?_<;>intro hc<;>(try simp only [hc])<;>(try simp only [decide_eq_true_eq,decide_eq_false_iff_not] at hc)<;>(try (exfalso;omega))))
   ((first|refine fin_ret ?_|refine fin_end ?_);simp only [go_sem,↓upd_def,Nat.reduceAdd,↓reduceIte])
   rw [List.drop_of_length_le (by omega)] at h1 h2
   refine ⟨Nat.le_refl _,K_eq hK ?_⟩
   unfold fdS
   rw [h2]
   rfl
@[go_sem] def wiC:PC:=rel (α:=List FieldD×Bs) (fun x=>[.seq (encFs x.1),.str x.2]) (fun x=>x.1.length≤1000∧x.2.length≤1000) (fun x=> .seq (encFs (withF x.1 x.2)))
set_option maxHeartbeats 8000000 in
theorem wi_i:PureOk Tryz.prog 58 wiC:=by
 refine pure_rel 2 tab_nil mixed [.tmp 4] Tryz.func58 rfl rfl (by kernel_rfl) (by kernel_rfl) (fun _=>rfl) (by kernel_rfl) ?_
 rintro ⟨l,t⟩ K ⟨hl,ht⟩ hK
 dsimp only at *
 have hel:=encFs_length l
 unfold entry
 repeat' (first|((first|apply qwd|apply qa1);(try intro K hk);focus (simp only [lvX16_58,mkT,go_sem,Nat.reduceEqDiff,Nat.reduceAdd,Nat.reduceLT,↓reduceIte,reduceCtorEq,encFs_length];first|exact rfl|((repeat refine ai ?_);intros;apply hk;clear hk K)))|apply qw1|refine qwc lvX16_58 ?_|apply qt1|apply qw5)
 refine s_loop (ι:=Nat) (fun k=>[(5,.own 0),(11,.seq (encFs l)),(12,.int .i64 l.length),(13,.int .i64 k)]) (fun k=>[(0,.row 46 4 (encFs (withF (l.take k) t)))]) 1 (fun k=>k≤l.length) (fun k=>l.length - k) 0 (by omega) (Nat.zero_le _) ?_ ?_
 · simp [fits,fitsT,fitsM,upd_def,PV.nmb,MB.nmb,withF,encFs,encF_mk,itemN,strs]
 rintro k hk
 simp only [mkS,mkT,mkM]
 by_cases hkl:k<l.length
 · obtain ⟨⟨nm,tx,hd,its⟩,hx⟩:=get_some (xs:=l) (k:=k) hkl
   have hget:=encFs_get l
   have hwl:=with_len (l.take k) t
   rw [List.length_take] at hwl
   have hwt:=with_take hx t
   have hea:=encFs_all (withF (l.take k) t)
   dsimp only at hwt
   repeat' (first|((first|apply qwd|apply qa1|apply qa2|apply qcd);(try intro K hk);focus (simp only [lvX16_58,mkT,go_sem,Nat.reduceEqDiff,Nat.reduceAdd,Nat.reduceLeDiff,↓reduceIte,reduceCtorEq,encFs_length,hget,hx,encF_mk,Option.map_some];first|exact rfl|((repeat refine ai ?_);intros;apply hk;clear hk K)))|apply qw1|refine qwc lvX16_58 ?_|apply qt1|apply qw5|apply qw2|apply qt4|apply qj1|apply qj4|(refine qj6 ?_ ?_<;>intro hc<;>(try simp only [hc])<;>(try simp only [decide_eq_true_eq,decide_eq_false_iff_not,Bool.not_eq_true',Bool.not_eq_false'] at hc)<;>(try (exfalso;omega))))
   · refine s_againR (k+1) (fun i=>if i=0 then 3 else i) ?_ ?_ ?_ ?_ ?_ ?_<;>(first|omega|(dsimp only;omega)|(intro i hi;(try dsimp only);(repeat' split)<;>omega)|(intro i j hi hj h;(try dsimp only at h);(repeat' split at h)<;>omega)|skip)
     all_goals (rw [if_neg (show ¬ nm=itemN from ‹_›)] at hwt;simp [fitsTR,fitsMR,PV.ren,MB.ren,upd_def,PV.nmb,MB.nmb,hwt,encFs_append,encFs_one,encF_mk];done)
   · rw [if_pos (show nm=itemN from ‹_›)] at hwt
     refine s_again (k+1) ?_ ?_ ?_<;>(first|omega|(dsimp only;omega)|skip)
     simp [fits,fitsT,fitsM,upd_def,PV.nmb,MB.nmb,hwt]
 · obtain rfl:k=l.length:=by omega
   repeat' (first|((first|apply qwd|apply qa1|apply qcd);(try intro K hk);focus (simp only [lvX16_58,mkT,go_sem,Nat.reduceEqDiff,↓reduceIte];first|exact rfl|((repeat refine ai ?_);intros;apply hk;clear hk K)))|apply qw1|refine qwc lvX16_58 ?_|apply qt1|apply qt2|apply qt5|apply qw3|apply qw4|apply qj4|(refine qj6 ?_ ?_<;>intro hc<;>(try simp only [hc])<;>(try simp only [decide_eq_true_eq,decide_eq_false_iff_not] at hc)<;>(try (exfalso;omega))))
   ((first|refine fin_ret ?_|refine fin_end ?_);simp only [go_sem,↓upd_def,↓reduceIte])
   rw [List.take_length]
   exact hK
set_option maxHeartbeats 8000000 in
theorem wi_s:PureOk Tryz.prog 73 wiC:=by
 refine pure_rel 2 tab_nil mixed [.tmp 4] Tryz.func73 rfl rfl (by kernel_rfl) (by kernel_rfl) (fun _=>rfl) (by kernel_rfl) ?_
 rintro ⟨l,t⟩ K ⟨hl,ht⟩ hK
 dsimp only at *
 have hel:=encFs_length l
 unfold entry
 repeat' (first|((first|apply qwd|apply qa1);(try intro K hk);focus (simp only [lvX16_73,mkT,go_sem,Nat.reduceEqDiff,Nat.reduceAdd,Nat.reduceLT,↓reduceIte,reduceCtorEq];first|exact rfl|((repeat refine ai ?_);intros;apply hk;clear hk K)))|apply qw1|refine qwc lvX16_73 ?_|apply qt1|apply qw5)
 refine s_loop (ι:=Nat) (fun k=>[(0,.seq (encFs l)),(5,.own 0),(6,.int .i64 k)]) (fun k=>[(0,.row 46 4 (encFs (withF (l.take k) t)))]) 1 (fun k=>k≤l.length) (fun k=>l.length - k) 0 (by omega) (Nat.zero_le _) ?_ ?_
 · simp [fits,fitsT,fitsM,upd_def,PV.nmb,MB.nmb,withF,encFs,encF_mk,itemN,strs]
 rintro k hk
 simp only [mkS,mkT,mkM]
 by_cases hkl:k<l.length
 · obtain ⟨⟨nm,tx,hd,its⟩,hx⟩:=get_some (xs:=l) (k:=k) hkl
   have hget:=encFs_get l
   have hwl:=with_len (l.take k) t
   rw [List.length_take] at hwl
   have hwt:=with_take hx t
   have hea:=encFs_all (withF (l.take k) t)
   dsimp only at hwt
   repeat' (first|((first|apply qwd|apply qa1|apply qcd);(try intro K hk);focus (simp only [lvX16_73,mkT,go_sem,Nat.reduceEqDiff,Nat.reduceAdd,Nat.reduceLeDiff,↓reduceIte,reduceCtorEq,encFs_length,hget,hx,encF_mk,Option.map_some];first|exact rfl|((repeat refine ai ?_);intros;apply hk;clear hk K)))|apply qw1|refine qwc lvX16_73 ?_|apply qt1|apply qw5|apply qw2|apply qt4|apply qj1|apply qj4|(refine qj6 ?_ ?_<;>intro hc<;>(try simp only [hc])<;>(try simp only [decide_eq_true_eq,decide_eq_false_iff_not,Bool.not_eq_true',Bool.not_eq_false'] at hc)<;>(try (exfalso;omega))))
   · refine s_againR (k+1) (fun i=>if i=0 then 2 else i) ?_ ?_ ?_ ?_ ?_ ?_<;>(first|omega|(dsimp only;omega)|(intro i hi;(try dsimp only);(repeat' split)<;>omega)|(intro i j hi hj h;(try dsimp only at h);(repeat' split at h)<;>omega)|skip)
     all_goals (rw [if_neg (show ¬ nm=itemN from ‹_›)] at hwt;simp [fitsTR,fitsMR,PV.ren,MB.ren,upd_def,PV.nmb,MB.nmb,hwt,encFs_append,encFs_one,encF_mk];done)
   · rw [if_pos (show nm=itemN from ‹_›)] at hwt
     refine s_again (k+1) ?_ ?_ ?_<;>(first|omega|(dsimp only;omega)|skip)
     simp [fits,fitsT,fitsM,upd_def,PV.nmb,MB.nmb,hwt]
 · obtain rfl:k=l.length:=by omega
   repeat' (first|((first|apply qwd|apply qa1|apply qcd);(try intro K hk);focus (simp only [lvX16_73,mkT,go_sem,Nat.reduceEqDiff,↓reduceIte,reduceCtorEq,encFs_length];first|exact rfl|((repeat refine ai ?_);intros;apply hk;clear hk K)))|apply qw1|refine qwc lvX16_73 ?_|apply qt1|apply qt2|apply qt5|apply qw3|apply qw4|apply qj4|(refine qj6 ?_ ?_<;>intro hc<;>(try simp only [hc])<;>(try simp only [decide_eq_true_eq,decide_eq_false_iff_not] at hc)<;>(try (exfalso;omega))))
   ((first|refine fin_ret ?_|refine fin_end ?_);simp only [go_sem,↓upd_def,↓reduceIte])
   rw [List.take_length]
   exact hK
@[go_sem] def dvC:PC:=rel (α:=List FieldD) (fun l=>[.seq (encFs l)]) okF (fun l=> .bool (dataB l))
theorem fld_bad {nm tx:Bs} {hd:Bool} {its:List Bs} (h:nameB nm=false∨valB tx=false∨5<its.length∨its.all valB=false):fldB ⟨nm,tx,hd,its⟩=false:=by
 unfold fldB
 rcases h with h|h|h|h
 · simp [h]
 · simp [h]
 · have:decide (its.length≤5)=false:=decide_eq_false (by omega)
   simp [this]
 · simp only [h,Bool.and_false]
theorem fld_good {nm tx:Bs} {hd:Bool} {its:List Bs} (h1:nameB nm=true) (h2:valB tx=true) (h3: ¬ 5<its.length) (h4:its.all valB=true):fldB ⟨nm,tx,hd,its⟩=true:=by
 unfold fldB
 have:decide (its.length≤5)=true:=decide_eq_true (by omega)
 simp only [h1,h2,h4,this,Bool.and_true]
theorem data_bad {l:List FieldD} {k:Nat} {f:FieldD} (hx:l[k]?=some f) (h:fldB f=false∨hasF (l.take k) f.name=true):dataB l=false:=by
 unfold dataB
 rw [datL_fail hx (by rcases h with h|h<;>simp [h])];simp
theorem data_next {l:List FieldD} {k:Nat} {f:FieldD} (hx:l[k]?=some f) (h:datL [] (l.take k)=true) (h1:fldB f=true) (h2:hasF (l.take k) f.name=false):datL [] (l.take (k+1))=true:=by
 rw [datL_take hx,h,h1,h2];rfl
set_option maxHeartbeats 8000000 in
theorem dv_i:PureOk Tryz.prog 24 dvC:=by
 refine pure_rel 1 (tab_cons name_i (tab_cons val_i tab_nil)) mixed [.tmp 2] Tryz.func24 rfl rfl (by kernel_rfl) (by kernel_rfl) (fun _=>rfl) (by kernel_rfl) ?_
 rintro l K hok hK
 obtain ⟨hl,hall⟩:=id hok
 have hel:=encFs_length l
 unfold entry
 repeat' (first|((first|apply qwd|apply qa1|apply qcd);(try intro K hk);focus (simp only [lvX16_24,mkT,go_sem,Nat.reduceEqDiff,↓reduceIte,reduceCtorEq,encFs_length];first|exact rfl|((repeat refine ai ?_);intros;apply hk;clear hk K)))|apply qw1|refine qwc lvX16_24 ?_|apply qt1|apply qw5|apply qw2|apply qt3|apply qw4|apply qj1|apply qj4|(refine qj6 ?_ ?_<;>intro hc<;>(try simp only [hc])<;>(try simp only [decide_eq_true_eq,decide_eq_false_iff_not] at hc)<;>(try (exfalso;omega))))
 · ((first|refine fin_ret ?_|refine fin_end ?_);simp only [go_sem,↓upd_def,↓reduceIte])
   refine K_bool hK ?_
   unfold dataB
   rw [decide_eq_false (by omega)];rfl
 refine s_loop (ι:=Nat) (fun k=>[(0,.seq (encFs l)),(12,.seq (encFs l)),(13,.int .i64 l.length),(14,.int .i64 k)]) (fun _=>[]) 0 (fun k=>k≤l.length∧datL [] (l.take k)=true) (fun k=>l.length - k) 0 (by omega) ⟨Nat.zero_le _,rfl⟩ ?_ ?_
 · simp [fits,fitsT,fitsM,upd_def,PV.nmb]
 rintro k ⟨hk,hd0⟩
 simp only [mkS,mkT,mkM]
 by_cases hkl:k<l.length
 · obtain ⟨⟨nm,tx,hd,its⟩,hx⟩:=get_some (xs:=l) (k:=k) hkl
   obtain ⟨o1,o2,o3,o4⟩:=okF_get hok hx
   have hget:=encFs_get l
   have hsl:=strs_length its
   dsimp only at o1 o2 o3 o4
   repeat' (first|((first|apply qwd|apply qa1|apply qa2|apply qh1|apply qg1 rfl|apply qcd);(try intro K hk);focus (simp only [lvX16_24,mkT,go_sem,Nat.reduceEqDiff,Nat.reduceAdd,Nat.reduceLeDiff,↓reduceIte,reduceCtorEq,hget,hx,encF_mk,Option.map_some,hsl];first|exact rfl|((repeat refine ai ?_);intros;apply hk;clear hk K)))|apply qw1|refine qwc lvX16_24 ?_|apply qt1|apply qw5|apply qw2|apply qt3|apply qt6|apply qw4|apply qj1|apply qj2|apply qj3|apply qj4|apply qu1|(refine qj6 ?_ ?_<;>intro hc<;>(try simp only [hc])<;>(try simp only [decide_eq_true_eq,decide_eq_false_iff_not,Bool.not_eq_true',Bool.not_eq_false'] at hc)<;>(try (exfalso;omega))))
   · ((first|refine fin_ret ?_|refine fin_end ?_);simp only [go_sem,↓upd_def,↓reduceIte])
     exact K_bool hK (data_bad hx (.inl (fld_bad (.inl ‹_›))))
   · ((first|refine fin_ret ?_|refine fin_end ?_);simp only [go_sem,↓upd_def,↓reduceIte])
     exact K_bool hK (data_bad hx (.inl (fld_bad (.inr (.inl ‹_›)))))
   · ((first|refine fin_ret ?_|refine fin_end ?_);simp only [go_sem,↓upd_def,↓reduceIte])
     exact K_bool hK (data_bad hx (.inl (fld_bad (.inr (.inr (.inl (by omega)))))))
   have hn1:nameB nm=true:= ‹_›
   have hv1:valB tx=true:= ‹_›
   have hi1: ¬ 5<its.length:=by omega
   refine s_loop (ι:=Nat) (fun j=>[(0,.seq (encFs l)),(3,.int .i64 k),(4,.ref 0 0),(12,.seq (encFs l)),(13,.int .i64 l.length),(14,.int .i64 k),(36,.seq (strs its)),(37,.int .i64 its.length),(38,.int .i64 j)]) (fun _=>[(0,.box [.str nm,.str tx,.bool hd,.seq (strs its)])]) 1 (fun j=>j≤its.length∧(its.take j).all valB=true) (fun j=>its.length - j) 0 (by omega) ⟨Nat.zero_le _,rfl⟩ ?_ ?_
   · simp [fits,fitsT,fitsM,upd_def,PV.nmb,nmbL,MB.nmb]
   rintro j ⟨hj,hja⟩
   simp only [mkS,mkT,mkM]
   by_cases hjl:j<its.length
   · obtain ⟨t,ht⟩:=get_some (xs:=its) (k:=j) hjl
     have hgs:=strK_get its
     have hol:=o4 t (List.mem_of_getElem? ht)
     have hia:=items_all ht
     repeat' (first|((first|apply qwd|apply qa1|apply qcd);(try intro K hk);focus (simp only [lvX16_24,mkT,go_sem,Nat.reduceEqDiff,↓reduceIte,reduceCtorEq,hgs,ht,Option.map_some];first|exact rfl|((repeat refine ai ?_);intros;apply hk;clear hk K)))|apply qw1|refine qwc lvX16_24 ?_|apply qt1|apply qw5|apply qw2|apply qt3|apply qt4|apply qt6|apply qw4|apply qj1|apply qj4|(refine qj6 ?_ ?_<;>intro hc<;>(try simp only [hc])<;>(try simp only [decide_eq_true_eq,decide_eq_false_iff_not,Bool.not_eq_true',Bool.not_eq_false'] at hc)<;>(try (exfalso;omega))))
     · ((first|refine fin_ret ?_|refine fin_end ?_);simp only [go_sem,↓upd_def,↓reduceIte])
       exact K_bool hK (data_bad hx (.inl (fld_bad (.inr (.inr (.inr (items_bad ht ‹_›)))))))
     · rw [hja,‹valB t=true›] at hia
       refine s_again (j+1) ?_ ?_ ?_<;>(first|omega|(dsimp only;omega)|skip)
       · exact ⟨by omega,hia⟩
       · simp [fits,fitsT,fitsM,upd_def,PV.nmb,nmbL,MB.nmb]
   obtain rfl:j=its.length:=by omega
   rw [List.take_length] at hja
   have hf1:fldB ⟨nm,tx,hd,its⟩=true:=fld_good hn1 hv1 hi1 hja
   have hkle:List.length (List.take k (encFs l))=k:=by rw [List.length_take,encFs_length];omega
   have hea:=encFs_all l
   repeat' (first|((first|apply qwd|apply qa1|apply qcd);(try intro K hk);focus (simp only [lvX16_24,mkT,go_sem,Nat.reduceEqDiff,↓reduceIte,reduceCtorEq,encFs_length,hkle,hea,List.drop_zero,Int.toNat_natCast];first|exact rfl|((repeat refine ai ?_);intros;apply hk;clear hk K)))|apply qw1|refine qwc lvX16_24 ?_|apply qt1|apply qw5|apply qt2|apply qt5|apply qw3|apply qj4|(refine qj6 ?_ ?_<;>intro hc<;>(try simp only [hc])<;>(try simp only [decide_eq_true_eq,decide_eq_false_iff_not] at hc)<;>(try (exfalso;omega))))
   refine s_loop (ι:=Nat) (fun j=>[(0,.seq (encFs l)),(4,.ref 0 0),(12,.seq (encFs l)),(13,.int .i64 l.length),(14,.int .i64 k),(48,.seq ((encFs l).take k)),(49,.int .i64 k),(50,.int .i64 j)]) (fun _=>[(0,.box [.str nm,.str tx,.bool hd,.seq (strs its)])]) 1 (fun j=>j≤k∧hasF (l.take j) nm=false) (fun j=>k - j) 0 (by omega) ⟨Nat.zero_le _,rfl⟩ ?_ ?_
   · simp [fits,fitsT,fitsM,upd_def,PV.nmb,nmbL,MB.nmb]
   rintro j ⟨hj,hjh⟩
   simp only [mkS,mkT,mkM]
   by_cases hjl:j<k
   · obtain ⟨⟨nm',tx',hd',its'⟩,hy⟩:=get_some (xs:=l) (k:=j) (by omega)
     have hgy:((encFs l).take k)[j]?=some [.str nm',.str tx',.bool hd',.seq (strs its')]:=by
      rw [List.getElem?_take_of_lt hjl,encFs_get,hy];rfl
     have hht:=hasF_take hy nm
     repeat' (first|((first|apply qwd|apply qa1|apply qa2|apply qcd);(try intro K hk);focus (simp only [lvX16_24,mkT,go_sem,Nat.reduceEqDiff,Nat.reduceAdd,Nat.reduceLeDiff,↓reduceIte,reduceCtorEq,hgy];first|exact rfl|((repeat refine ai ?_);intros;apply hk;clear hk K)))|apply qw1|refine qwc lvX16_24 ?_|apply qt1|apply qw5|apply qw2|apply qt3|apply qt4|apply qt6|apply qw4|apply qj1|apply qj4|(refine qj6 ?_ ?_<;>intro hc<;>(try simp only [hc])<;>(try simp only [decide_eq_true_eq,decide_eq_false_iff_not] at hc)<;>(try (exfalso;omega))))
     · ((first|refine fin_ret ?_|refine fin_end ?_);simp only [go_sem,↓upd_def,↓reduceIte])
       refine K_bool hK (data_bad hx (.inr ?_))
       have:=hasF_some (k:=k) hy hjl
       dsimp only at this ⊢
       rwa [‹nm'=nm›] at this
     · rw [hjh,Bool.false_or] at hht
       rw [decide_eq_false ‹_›] at hht
       refine s_again (j+1) ?_ ?_ ?_<;>(first|omega|(dsimp only;omega)|skip)
       · exact ⟨by omega,hht⟩
       · simp [fits,fitsT,fitsM,upd_def,PV.nmb,nmbL,MB.nmb]
   obtain rfl:j=k:=by omega
   repeat' (first|((first|apply qwd|apply qa1|apply qcd);(try intro K hk);focus (simp only [lvX16_24,mkT,go_sem,Nat.reduceEqDiff,↓reduceIte,reduceCtorEq];first|exact rfl|((repeat refine ai ?_);intros;apply hk;clear hk K)))|apply qw1|refine qwc lvX16_24 ?_|apply qt1|apply qt2|apply qt4|apply qt5|apply qw3|apply qj4|(refine qj6 ?_ ?_<;>intro hc<;>(try simp only [hc])<;>(try simp only [decide_eq_true_eq,decide_eq_false_iff_not] at hc)<;>(try (exfalso;omega))))
   refine s_again (j+1) ?_ ?_ ?_<;>(first|omega|(dsimp only;omega)|skip)
   · exact ⟨by omega,data_next hx hd0 hf1 hjh⟩
   · simp [fits,fitsT,fitsM,upd_def,PV.nmb]
 · obtain rfl:k=l.length:=by omega
   repeat' (first|((first|apply qwd|apply qa1|apply qcd);(try intro K hk);focus (simp only [lvX16_24,mkT,go_sem,Nat.reduceEqDiff,↓reduceIte,reduceCtorEq];first|exact rfl|((repeat refine ai ?_);intros;apply hk;clear hk K)))|apply qw1|refine qwc lvX16_24 ?_|apply qt1|apply qt2|apply qt5|apply qw3|apply qw4|apply qj4|(refine qj6 ?_ ?_<;>intro hc<;>(try simp only [hc])<;>(try simp only [decide_eq_true_eq,decide_eq_false_iff_not] at hc)<;>(try (exfalso;omega))))
   ((first|refine fin_ret ?_|refine fin_end ?_);simp only [go_sem,↓upd_def,↓reduceIte])
   rw [List.take_length] at hd0
   refine K_bool hK ?_
   unfold dataB
   rw [hd0,decide_eq_true (by omega)];rfl
set_option maxHeartbeats 8000000 in
theorem dv_s:PureOk Tryz.prog 33 dvC:=by
 refine pure_rel 1 (tab_cons name_s (tab_cons val_s tab_nil)) mixed [.tmp 2] Tryz.func33 rfl rfl (by kernel_rfl) (by kernel_rfl) (fun _=>rfl) (by kernel_rfl) ?_
 rintro l K hok hK
 obtain ⟨hl,hall⟩:=id hok
 have hel:=encFs_length l
 unfold entry
 repeat' (first|((first|apply qwd|apply qa1);(try intro K hk);focus (simp only [lvX16_33,mkT,go_sem,↓reduceIte,reduceCtorEq];first|exact rfl|((repeat refine ai ?_);intros;apply hk;clear hk K)))|apply qw1|refine qwc lvX16_33 ?_|apply qt1|apply qw5)
 refine s_loop (ι:=Nat) (fun k=>[(0,.seq (encFs l)),(3,.int .i64 k)]) (fun _=>[]) 0 (fun k=>k≤l.length∧datL [] (l.take k)=true) (fun k=>l.length - k) 0 (by omega) ⟨Nat.zero_le _,rfl⟩ ?_ ?_
 · simp [fits,fitsT,fitsM,upd_def,PV.nmb]
 rintro k ⟨hk,hd0⟩
 simp only [mkS,mkT,mkM]
 by_cases hkl:k<l.length
 · obtain ⟨⟨nm,tx,hd,its⟩,hx⟩:=get_some (xs:=l) (k:=k) hkl
   obtain ⟨o1,o2,o3,o4⟩:=okF_get hok hx
   have hget:=encFs_get l
   have hsl:=strs_length its
   dsimp only at o1 o2 o3 o4
   repeat' (first|((first|apply qwd|apply qa1|apply qa2|apply qh1|apply qg1 rfl|apply qcd);(try intro K hk);focus (simp only [lvX16_33,mkT,go_sem,Nat.reduceEqDiff,Nat.reduceAdd,Nat.reduceLeDiff,↓reduceIte,reduceCtorEq,encFs_length,hget,hx,encF_mk,Option.map_some,hsl];first|exact rfl|((repeat refine ai ?_);intros;apply hk;clear hk K)))|apply qw1|refine qwc lvX16_33 ?_|apply qt1|apply qw5|apply qw2|apply qt3|apply qt6|apply qw4|apply qj1|apply qj2|apply qj3|apply qj4|apply qu1|(refine qj6 ?_ ?_<;>intro hc<;>(try simp only [hc])<;>(try simp only [decide_eq_true_eq,decide_eq_false_iff_not,Bool.not_eq_true',Bool.not_eq_false'] at hc)<;>(try (exfalso;omega))))
   · ((first|refine fin_ret ?_|refine fin_end ?_);simp only [go_sem,↓upd_def,↓reduceIte])
     exact K_bool hK (data_bad hx (.inl (fld_bad (.inl ‹_›))))
   · ((first|refine fin_ret ?_|refine fin_end ?_);simp only [go_sem,↓upd_def,↓reduceIte])
     exact K_bool hK (data_bad hx (.inl (fld_bad (.inr (.inl ‹_›)))))
   · ((first|refine fin_ret ?_|refine fin_end ?_);simp only [go_sem,↓upd_def,↓reduceIte])
     exact K_bool hK (data_bad hx (.inl (fld_bad (.inr (.inr (.inl (by omega)))))))
   have hn1:nameB nm=true:= ‹_›
   have hv1:valB tx=true:= ‹_›
   have hi1: ¬ 5<its.length:=by omega
   refine s_loop (ι:=Nat) (fun j=>[(0,.seq (encFs l)),(3,.int .i64 k),(4,.ref 0 0),(5,.int .i64 j)]) (fun _=>[(0,.box [.str nm,.str tx,.bool hd,.seq (strs its)])]) 1 (fun j=>j≤its.length∧(its.take j).all valB=true) (fun j=>its.length - j) 0 (by omega) ⟨Nat.zero_le _,rfl⟩ ?_ ?_
   · simp [fits,fitsT,fitsM,upd_def,PV.nmb,nmbL,MB.nmb]
   rintro j ⟨hj,hja⟩
   simp only [mkS,mkT,mkM]
   by_cases hjl:j<its.length
   · obtain ⟨t,ht⟩:=get_some (xs:=its) (k:=j) hjl
     have hgs:=strK_get its
     have hol:=o4 t (List.mem_of_getElem? ht)
     have hia:=items_all ht
     repeat' (first|((first|apply qwd|apply qa1|apply qcd);(try intro K hk);focus (simp only [lvX16_33,mkT,go_sem,Nat.reduceEqDiff,↓reduceIte,reduceCtorEq,hgs,ht,Option.map_some,hsl];first|exact rfl|((repeat refine ai ?_);intros;apply hk;clear hk K)))|apply qw1|refine qwc lvX16_33 ?_|apply qt1|apply qw5|apply qw2|apply qt3|apply qt4|apply qt6|apply qw4|apply qj1|apply qj4|(refine qj6 ?_ ?_<;>intro hc<;>(try simp only [hc])<;>(try simp only [decide_eq_true_eq,decide_eq_false_iff_not,Bool.not_eq_true',Bool.not_eq_false'] at hc)<;>(try (exfalso;omega))))
     · ((first|refine fin_ret ?_|refine fin_end ?_);simp only [go_sem,↓upd_def,↓reduceIte])
       exact K_bool hK (data_bad hx (.inl (fld_bad (.inr (.inr (.inr (items_bad ht ‹_›)))))))
     · rw [hja,‹valB t=true›] at hia
       refine s_again (j+1) ?_ ?_ ?_<;>(first|omega|(dsimp only;omega)|skip)
       · exact ⟨by omega,hia⟩
       · simp [fits,fitsT,fitsM,upd_def,PV.nmb,nmbL,MB.nmb]
   obtain rfl:j=its.length:=by omega
   rw [List.take_length] at hja
   have hf1:fldB ⟨nm,tx,hd,its⟩=true:=fld_good hn1 hv1 hi1 hja
   repeat' (first|((first|apply qwd|apply qa1|apply qcd);(try intro K hk);focus (simp only [lvX16_33,mkT,go_sem,Nat.reduceEqDiff,↓reduceIte,reduceCtorEq,hsl,List.drop_zero];first|exact rfl|((repeat refine ai ?_);intros;apply hk;clear hk K)))|apply qw1|refine qwc lvX16_33 ?_|apply qt1|apply qw5|apply qt2|apply qt5|apply qw3|apply qj4|(refine qj6 ?_ ?_<;>intro hc<;>(try simp only [hc])<;>(try simp only [decide_eq_true_eq,decide_eq_false_iff_not] at hc)<;>(try (exfalso;omega))))
   refine s_loop (ι:=Nat) (fun j=>[(0,.seq (encFs l)),(3,.int .i64 k),(4,.ref 0 0),(6,.int .i64 j)]) (fun _=>[(0,.box [.str nm,.str tx,.bool hd,.seq (strs its)])]) 1 (fun j=>j≤k∧hasF (l.take j) nm=false) (fun j=>k - j) 0 (by omega) ⟨Nat.zero_le _,rfl⟩ ?_ ?_
   · simp [fits,fitsT,fitsM,upd_def,PV.nmb,nmbL,MB.nmb]
   rintro j ⟨hj,hjh⟩
   simp only [mkS,mkT,mkM]
   by_cases hjl:j<k
   · obtain ⟨⟨nm',tx',hd',its'⟩,hy⟩:=get_some (xs:=l) (k:=j) (by omega)
     have hht:=hasF_take hy nm
     repeat' (first|((first|apply qwd|apply qa1|apply qa3|apply qcd);(try intro K hk);focus (simp only [lvX16_33,mkT,go_sem,Nat.reduceEqDiff,Nat.reduceAdd,↓reduceIte,reduceCtorEq,hget,hy,encF_mk,Option.map_some];first|exact rfl|((repeat refine ai ?_);intros;apply hk;clear hk K)))|apply qw1|refine qwc lvX16_33 ?_|apply qt1|apply qw5|apply qw2|apply qw9|apply qt3|apply qt4|apply qt6|apply qw4|apply qj1|apply qj4|(refine qj6 ?_ ?_<;>intro hc<;>(try simp only [hc])<;>(try simp only [decide_eq_true_eq,decide_eq_false_iff_not] at hc)<;>(try (exfalso;omega)))|(refine qw7 ?_ ?_ ?_;(focus (decide +kernel));(focus (decide +kernel))))
     · ((first|refine fin_ret ?_|refine fin_end ?_);simp only [go_sem,↓upd_def,↓reduceIte])
       refine K_bool hK (data_bad hx (.inr ?_))
       have:=hasF_some (k:=k) hy hjl
       dsimp only at this ⊢
       rwa [‹nm'=nm›] at this
     · rw [hjh,Bool.false_or] at hht
       rw [decide_eq_false ‹_›] at hht
       refine s_again (j+1) ?_ ?_ ?_<;>(first|omega|(dsimp only;omega)|skip)
       · exact ⟨by omega,hht⟩
       · simp [fits,fitsT,fitsM,upd_def,PV.nmb,nmbL,MB.nmb]
   obtain rfl:j=k:=by omega
   repeat' (first|((first|apply qwd|apply qa1|apply qcd);(try intro K hk);focus (simp only [lvX16_33,mkT,go_sem,Nat.reduceEqDiff,↓reduceIte,reduceCtorEq];first|exact rfl|((repeat refine ai ?_);intros;apply hk;clear hk K)))|apply qw1|refine qwc lvX16_33 ?_|apply qt1|apply qt2|apply qt4|apply qt5|apply qw3|apply qj4|(refine qj6 ?_ ?_<;>intro hc<;>(try simp only [hc])<;>(try simp only [decide_eq_true_eq,decide_eq_false_iff_not] at hc)<;>(try (exfalso;omega))))
   refine s_again (j+1) ?_ ?_ ?_<;>(first|omega|(dsimp only;omega)|skip)
   · exact ⟨by omega,data_next hx hd0 hf1 hjh⟩
   · simp [fits,fitsT,fitsM,upd_def,PV.nmb]
 · obtain rfl:k=l.length:=by omega
   repeat' (first|((first|apply qwd|apply qa1|apply qcd);(try intro K hk);focus (simp only [lvX16_33,mkT,go_sem,Nat.reduceEqDiff,↓reduceIte,reduceCtorEq,encFs_length];first|exact rfl|((repeat refine ai ?_);intros;apply hk;clear hk K)))|apply qw1|refine qwc lvX16_33 ?_|apply qt1|apply qt2|apply qt5|apply qw3|apply qw4|apply qj4|(refine qj6 ?_ ?_<;>intro hc<;>(try simp only [hc])<;>(try simp only [decide_eq_true_eq,decide_eq_false_iff_not] at hc)<;>(try (exfalso;omega))))
   all_goals
    ((first|refine fin_ret ?_|refine fin_end ?_);simp only [go_sem,↓upd_def,↓reduceIte])
    rw [List.take_length] at hd0
    refine K_bool hK ?_
    unfold dataB
    rw [hd0,Bool.and_true,decide_eq_decide]
    omega
end Go.Proofs.YtnbjogilidfkdaaGreat

/- Contracts: the reference's l12Fill, FillPlain. -/
namespace Go.Proofs.YtnbjogilidfkdaaGreat
set_option maxRecDepth 100000
set_option linter.unusedVariables false
set_option linter.unusedSimpArgs false
open Go.RowKit
--LV=X24
theorem find_no: ∀ {l:List FieldD} {n:Bs},hasF l n=false→findF l n=noF
 | [],_,_=>rfl
 | f::r,n,h=>by
   unfold hasF at h
   rw [List.any_cons,Bool.or_eq_false_iff] at h
   unfold findF
   rw [if_neg (by simpa using h.1)]
   exact find_no h.2
theorem fdS_mk (l:List FieldD) (n:Bs): ∃ m,fdS l n=⟨m,(findF l n).text,(findF l n).holds,(findF l n).items⟩:=by
 unfold fdS
 cases h:hasF l n
 · exact ⟨n,by rw [find_no h];rfl⟩
 · exact ⟨(findF l n).name,rfl⟩
theorem plW_bd {xs:List PartD} {data:List FieldD} (hg:gdL 3 false xs=true) (hd:dBd data) (hw:wtL xs≤1073741824):plW data xs≤109951162777600:=by
 have:=evL_wt xs 3 data st0 false hg hd
 unfold plW
 omega
theorem dataB_len {l:List FieldD} (h:dataB l=true):l.length≤8:=by
 unfold dataB at h
 simp only [Bool.and_eq_true,decide_eq_true_eq] at h
 exact h.1
end Go.Proofs.YtnbjogilidfkdaaGreat
