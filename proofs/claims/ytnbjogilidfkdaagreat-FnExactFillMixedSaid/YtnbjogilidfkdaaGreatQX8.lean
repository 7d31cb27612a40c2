/- Contracts: the number of parts, their depth. -/
import Derived.Test.YtnbjogilidfkdaaGreatQX1
import Derived.Test.YtnbjogilidfkdaaGreatQFP
import Derived.Test.YtnbjogilidfkdaaGreatQF12

namespace Go.Proofs.YtnbjogilidfkdaaGreat
attribute [local irreducible] awp arun acalm FinP Fin AX.then AX.inBlock Again aG gsel amix amixN amixC aop aopc aopd cutK
attribute [local go_sem] aBSliceD aSlice aSliceC boundOf aMk aCall aCallC aLenL aLen aPick_t aPick_f aNil aAlloc aBox aBuild bldPV aBSlice bsPV aApp newsOf destOf drp aConvX aConv aConvInt aLoad cellsAt aStore cellsPV setAt aFld aField aIdx aIndex aUn aBin' aBin aMax aExtract pvOf PV.isCell nmbL PV.nmb List.map_cons List.map_nil List.all_cons List.all_nil Bool.and_true Bool.true_and if_true if_false List.getD_cons_zero List.getD_cons_succ List.getD_nil Option.isSome_some true_and and_true and_self eq_self true_or or_true List.drop_zero List.drop_succ_cons List.drop_nil List.take_zero List.take_succ_cons List.take_nil List.length_cons List.length_nil List.length_map Option.getD_some Option.getD_none List.nil_append List.cons_append List.append_nil Option.some.injEq exists_eq_left' List.getElem?_cons_zero List.getElem?_cons_succ Int.toNat_natCast Int.natCast_inj toNat_succ Nat.zero_add res res1 resC owns owns1 ownsC List.flatMap_cons List.flatMap_nil List.flatten_cons List.flatten_nil List.mem_cons List.not_mem_nil or_false false_or forall_eq forall_eq_or_imp isFro frz frz1 pureC tabA isBld List.cons.injEq PV.seq.injEq PV.int.injEq PV.str.injEq PV.bool.injEq PV.agg.injEq inR tab Γof aRes packR Option.map_some Option.map_none rel Prod.exists exists_and_left exists_eq_left and_assoc beq_self_eq_true Bool.not_true Bool.not_false decide_true decide_false List.set_cons_zero List.set_cons_succ rst_nil rst_cons
attribute [local go_sem ↓] evT upd_def aop aopc aopd
set_option maxRecDepth 100000
set_option linter.unusedVariables false
set_option linter.unusedSimpArgs false
open Go.RowKit
@[go_sem] def parC (f:List PartD→PV) (n:Nat):PC:=rel (α:=List PartD) (fun x=>[.seq (encPs x)]) (fun x=>wtL x<n∧wtL x≤1099511627776) f
@[go_sem] def parQ (f:List PartD→PV):PC:=rel (α:=List PartD) (fun x=>[.seq (encPs x)]) (fun x=>wtL x≤1099511627776) f
theorem par_all {f:FuncId} {g:List PartD→PV} (h: ∀ n,PureOk Tryz.prog f (parC g n)):PureOk Tryz.prog f (parQ g):=rel_all (fun x=>wtL x) h
set_option maxHeartbeats 4000000 in
theorem cnt_i: ∀ n,PureOk Tryz.prog 95 (parC (fun x=> .int .i64 (cntL x)) n):=by
 intro n
 induction n with
 | zero=>exact never_rel Tryz.func95 (by kernel_rfl) (by kernel_rfl) (fun x h=>by omega)
 | succ n ih =>
 refine pure_rel 1 (tab_cons ih tab_nil) mixed [.tmp 2] Tryz.func95 rfl rfl (by kernel_rfl) (by kernel_rfl) (fun _=>rfl) (by kernel_rfl) ?_
 rintro xs K ⟨hn,hb⟩ hK
 clear ih
 have hlw:=len_le_wtL xs
 unfold entry
 repeat' (first|((first|apply qa1);(try intro K hk);focus (simp only [go_sem,↓reduceIte,reduceCtorEq];first|exact rfl|((repeat refine ai ?_);intros;apply hk;clear hk K)))|apply qw8|apply qw1|apply qw6|apply qt1|apply qw5)
 refine s_loop (ι:=Nat) (fun k=>[(3,.int .i64 (cntL (xs.take k))),(6,.seq (encPs xs)),(7,.int .i64 xs.length),(8,.int .i64 k)]) (fun _=>[]) 0 (fun k=>k≤xs.length) (fun k=>xs.length - k) 0 (by omega) (by omega) ?_ ?_
 · simp [fits,fitsT,fitsM,upd_def,PV.nmb,cntL_nil]
 intro k hk
 simp only [mkS,mkT,mkM]
 repeat' (first|((first|apply qa1|apply qcd);(try intro K hk);focus (simp only [go_sem,Nat.reduceEqDiff,↓reduceIte];first|exact rfl|((repeat refine ai ?_);intros;apply hk;clear hk K)))|apply qw8|apply qw1|apply qw6|apply qt1|apply qw5|apply qw2|apply qt2|apply qt5|apply qw3|apply qw4|apply qj1|apply qj4|(refine qj6 ?_ ?_<;>intro hc<;>(try simp only [hc])<;>(try simp only [decide_eq_true_eq,decide_eq_false_iff_not] at hc)<;>(try (exfalso;omega))))
 · obtain ⟨⟨kd,t,nm,ps,os⟩,hx⟩:=get_some (xs:=xs) (k:=k) (by omega)
   have htk:=take_snoc' hx
   have ws:=wtL_split hx
   rw [wtP_mk] at ws
   have hget:=encPs_get xs
   have c1:=cntL_le ps
   have c2:=cntL_le os
   have c3:=cntL_le (xs.take k)
   repeat' (first|((first|apply qa1|apply qa2|apply qa3);(try intro K hk);focus (simp only [go_sem,Nat.reduceEqDiff,Nat.reduceAdd,Nat.reduceLeDiff,↓reduceIte,reduceCtorEq,hget,hx,encP_mk];first|exact rfl|((repeat refine ai ?_);intros;apply hk;clear hk K)))|apply qw8|apply qw6|apply qt1|apply qw9|apply qt4|(refine qw7 ?_ ?_ ?_;(focus (decide +kernel));(focus (decide +kernel))))
   refine s_again (k+1) ?_ ?_ ?_<;>(first|omega|(dsimp only;omega)|skip)
   simp [fits,fitsT,fitsM,upd_def,PV.nmb,htk,cntL_append,cntL_one,cntP_mk]
   omega
 · obtain rfl:k=xs.length:=by omega
   ((first|refine fin_ret ?_|refine fin_end ?_);simp only [go_sem,↓upd_def,↓reduceIte])
   rw [List.take_length]
   exact hK
theorem cnt_ic:PureOk Tryz.prog 95 (parQ (fun x=> .int .i64 (cntL x))):=par_all cnt_i
set_option maxHeartbeats 4000000 in
theorem cnt_s: ∀ n,PureOk Tryz.prog 127 (parC (fun x=> .int .i64 (cntL x)) n):=by
 intro n
 induction n with
 | zero=>exact never_rel Tryz.func127 (by kernel_rfl) (by kernel_rfl) (fun x h=>by omega)
 | succ n ih =>
 refine pure_rel 1 (tab_cons ih tab_nil) mixed [.tmp 2] Tryz.func127 rfl rfl (by kernel_rfl) (by kernel_rfl) (fun _=>rfl) (by kernel_rfl) ?_
 rintro xs K ⟨hn,hb⟩ hK
 clear ih
 have hlw:=len_le_wtL xs
 unfold entry
 repeat' (first|((first|apply qa1);(try intro K hk);focus (simp only [go_sem,↓reduceIte,reduceCtorEq];first|exact rfl|((repeat refine ai ?_);intros;apply hk;clear hk K)))|apply qw8|apply qw1|apply qw6|apply qt1|apply qw5)
 refine s_loop (ι:=Nat) (fun k=>[(0,.seq (encPs xs)),(3,.int .i64 (cntL (xs.take k)+(xs.length - k))),(4,.int .i64 k)]) (fun _=>[]) 0 (fun k=>k≤xs.length) (fun k=>xs.length - k) 0 (by omega) (by omega) ?_ ?_
 · simp [fits,fitsT,fitsM,upd_def,PV.nmb,cntL_nil]
 intro k hk
 simp only [mkS,mkT,mkM]
 repeat' (first|((first|apply qa1|apply qa3|apply qcd);(try intro K hk);focus (simp only [go_sem,Nat.reduceEqDiff,↓reduceIte,reduceCtorEq];first|exact rfl|((repeat refine ai ?_);intros;apply hk;clear hk K)))|apply qw8|apply qw1|apply qw6|apply qt1|apply qw5|apply qw2|apply qt2|apply qt5|apply qw3|apply qw4|apply qj1|apply qj4|(refine qj6 ?_ ?_<;>intro hc<;>(try simp only [hc])<;>(try simp only [decide_eq_true_eq,decide_eq_false_iff_not] at hc)<;>(try (exfalso;omega)))|(refine qw7 ?_ ?_ ?_;(focus (decide +kernel));(focus (decide +kernel))))
 · obtain ⟨⟨kd,t,nm,ps,os⟩,hx⟩:=get_some (xs:=xs) (k:=k) (by omega)
   have htk:=take_snoc' hx
   have ws:=wtL_split hx
   rw [wtP_mk] at ws
   have hget:=encPs_get xs
   have c1:=cntL_le ps
   have c2:=cntL_le os
   have c3:=cntL_le (xs.take k)
   repeat' (first|((first|apply qa1|apply qa3);(try intro K hk);focus (simp only [go_sem,Nat.reduceEqDiff,Nat.reduceAdd,↓reduceIte,reduceCtorEq,hget,hx,encP_mk];first|exact rfl|((repeat refine ai ?_);intros;apply hk;clear hk K)))|apply qw8|apply qw6|apply qt1|apply qw9|apply qt4)
   refine s_again (k+1) ?_ ?_ ?_<;>(first|omega|(dsimp only;omega)|skip)
   simp [fits,fitsT,fitsM,upd_def,PV.nmb,htk,cntL_append,cntL_one,cntP_mk]
   omega
 · obtain rfl:k=xs.length:=by omega
   ((first|refine fin_ret ?_|refine fin_end ?_);simp only [go_sem,↓upd_def,↓reduceIte])
   rw [List.take_length,Int.sub_self,Int.add_zero] at *
   exact hK
theorem cnt_sc:PureOk Tryz.prog 127 (parQ (fun x=> .int .i64 (cntL x))):=par_all cnt_s
end Go.Proofs.YtnbjogilidfkdaaGreat
