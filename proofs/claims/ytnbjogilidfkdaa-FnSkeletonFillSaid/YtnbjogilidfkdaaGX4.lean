/- Contracts: entities read back (the reference), percent signs, script texts. -/
import Derived.Test.YtnbjogilidfkdaaGX1

namespace Go.Proofs.Ytnbjogilidfkdaa
attribute [local irreducible] awp arun acalm FinP Fin AX.then AX.inBlock Again aG gsel amix amixN amixC aop aopc aopd cutK
attribute [local go_sem] aBSliceD aSlice aSliceC boundOf aMk aCall aCallC aLenL aLen aPick_t aPick_f aNil aAlloc aBox aBuild bldPV aBSlice bsPV aApp newsOf destOf drp aConvX aConv aConvInt aLoad cellsAt aStore cellsPV setAt aFld aField aIdx aIndex aUn aBin' aBin aMax aExtract pvOf PV.isCell nmbL PV.nmb List.map_cons List.map_nil List.all_cons List.all_nil Bool.and_true Bool.true_and if_true if_false List.getD_cons_zero List.getD_cons_succ List.getD_nil Option.isSome_some true_and and_true and_self eq_self true_or or_true List.drop_zero List.drop_succ_cons List.drop_nil List.take_zero List.take_succ_cons List.take_nil List.length_cons List.length_nil List.length_map Option.getD_some Option.getD_none List.nil_append List.cons_append List.append_nil Option.some.injEq exists_eq_left' List.getElem?_cons_zero List.getElem?_cons_succ Int.toNat_natCast Int.natCast_inj toNat_succ Nat.zero_add res res1 resC owns owns1 ownsC List.flatMap_cons List.flatMap_nil List.flatten_cons List.flatten_nil List.mem_cons List.not_mem_nil or_false false_or forall_eq forall_eq_or_imp isFro frz frz1 pureC tabA isBld List.cons.injEq PV.seq.injEq PV.int.injEq PV.str.injEq PV.bool.injEq PV.agg.injEq inR tab Γof aRes packR Option.map_some Option.map_none rel Prod.exists exists_and_left exists_eq_left and_assoc beq_self_eq_true Bool.not_true Bool.not_false decide_true decide_false List.set_cons_zero List.set_cons_succ rst_nil rst_cons
attribute [local go_sem ↓] evT upd_def aop aopc aopd
set_option maxRecDepth 100000
set_option linter.unusedVariables false
set_option linter.unusedSimpArgs false
open Go.RowKit
theorem hexU_at (n:Nat):([48,49,50,51,52,53,54,55,56,57,65,66,67,68,69,70]:Bs).getD n 0=hexU.getD n 0:=rfl
theorem shr4 (b:UInt8):((b.toNat:Int) / 16).toNat=b.toNat / 16:=by omega
theorem and15' (b:UInt8):((b.toNat:Int) % 16).toNat=b.toNat % 16:=by omega
@[go_sem] def pctC:PC:=rel (α:=Bs×Bs) (fun x=>[.str x.1,.str x.2]) (fun x=>x.1.length≤1099511627776∧x.2.length≤1099511627776) (fun x=> .str (pctS x.2 x.1))
set_option maxHeartbeats 4000000 in
theorem pct_i:PureOk Try.prog 142 pctC:=by
 refine pure_relA 2 (tabA_cons wstr_ok (tabA_cons wbyte_ok (tabA_cons bstr_ok (tabA_nil (Γof_ok (tab_cons let_i (tab_cons digb_i (tab_cons has_i tab_nil)))))))) (tab_cons let_i (tab_cons digb_i (tab_cons has_i tab_nil))) mixed [.tmp 4] Try.func142 rfl rfl (by kernel_rfl) (by kernel_rfl) (fun _=>rfl) (by kernel_rfl) ?_
 rintro ⟨s,keep⟩ K ⟨hl,hl'⟩ hK
 dsimp only at *
 unfold entry
 repeat' (first|((first|apply qa1);(try intro K hk);focus (simp only [go_sem,↓reduceIte];first|exact rfl|((repeat refine ai ?_);intros;apply hk;clear hk K)))|apply qw8|apply qw1|apply qw6|apply qt1|apply qw5)
 refine s_loop (ι:=Nat) (fun k=>[(0,.str s),(1,.str keep),(5,.ref 0 0),(6,.int .i64 k)]) (fun k=>[(0,.gen bld [.str (pctS keep (s.take k))])]) 1 (fun k=>k≤s.length) (fun k=>s.length - k) 0 (by omega) (by omega) ?_ ?_
 · simp [fits,fitsT,fitsM,upd_def,PV.nmb,MB.nmb,pctS]
 intro k hk
 have hbl:=byte_lt s k
 have hx1:=byte_lt hexU ((s.getD k 0).toNat / 16)
 have hx2:=byte_lt hexU ((s.getD k 0).toNat % 16)
 have hL1:=pctS_len keep (s.take k)
 rw [List.length_take_of_le hk] at hL1
 simp only [mkS,mkT,mkM]
 repeat' (first|((first|apply qa1|apply qh1|apply qg1 rfl|apply qcd);(try intro K hk);focus (simp only [go_sem,Nat.reduceEqDiff,Nat.reduceAdd,Nat.reduceLeDiff,Int.reduceToNat,↓reduceIte,reduceCtorEq,hexU_at,shr4,and15',List.length_append];first|exact rfl|((repeat refine ai ?_);intros;apply hk;clear hk K)))|apply qw8|apply qw1|apply qw6|apply qt1|apply qw5|apply qw2|apply qt2|apply qt4|apply qt5|apply qw3|apply qw4|apply qj1|apply qj2|apply qj3|apply qj4|apply qu1|(refine qj6 ?_ ?_<;>intro hc<;>(try simp only [hc])<;>(try simp only [decide_eq_true_eq,decide_eq_false_iff_not] at hc)<;>(try (exfalso;omega))))
 all_goals first
  | (refine s_again (k+1) ?_ ?_ ?_<;>(first|omega|(dsimp only;omega)|skip)
     have hS:pctS keep (s.take (k+1))=pctS keep (s.take k)++pctW keep (s.getD k 0):=flatMap_snoc (by omega)
     rw [hS]
     clear hK
     generalize s.getD k 0=b at *
     simp [fits,fitsT,fitsM,upd_def,PV.nmb,MB.nmb,pctW,pct1, *]
     done)
  | (((first|refine fin_ret ?_|refine fin_end ?_);simp only [go_sem,↓upd_def,↓reduceIte])
     rw [List.take_of_length_le (by omega)]
     exact hK)
theorem escP_i:PureOk Try.prog 107 (tC fun s=> .str (pctS keep3 s)):=by
 refine pure_rel 1 (tab_cons pct_i tab_nil) mixed [.tmp 2] Try.func107 rfl rfl (by kernel_rfl) (by kernel_rfl) (fun _=>rfl) (by kernel_rfl) ?_
 rintro s K hl hK
 unfold entry
 repeat' (first|((first|apply qa1);(try intro K hk);focus (simp only [go_sem,Nat.reduceAdd,Nat.reduceLeDiff,↓reduceIte,reduceCtorEq];first|exact rfl|((repeat refine ai ?_);intros;apply hk;clear hk K)))|apply qw8|apply qw1|apply qw6|apply qt1|apply qw4)
 ((first|refine fin_ret ?_|refine fin_end ?_);simp only [go_sem,↓upd_def,↓reduceIte])
 exact hK
theorem plain_i:PureOk Try.prog 106 (tC fun s=> .str (pctS keepA s)):=by
 refine pure_rel 1 (tab_cons pct_i tab_nil) mixed [.tmp 2] Try.func106 rfl rfl (by kernel_rfl) (by kernel_rfl) (fun _=>rfl) (by kernel_rfl) ?_
 rintro s K hl hK
 unfold entry
 repeat' (first|((first|apply qa1);(try intro K hk);focus (simp only [go_sem,Nat.reduceAdd,Nat.reduceLeDiff,↓reduceIte,reduceCtorEq];first|exact rfl|((repeat refine ai ?_);intros;apply hk;clear hk K)))|apply qw8|apply qw1|apply qw6|apply qt1|apply qw4)
 ((first|refine fin_ret ?_|refine fin_end ?_);simp only [go_sem,↓upd_def,↓reduceIte])
 exact hK
end Go.Proofs.Ytnbjogilidfkdaa
