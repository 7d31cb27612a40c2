/- Contracts: parts of addresses and script texts, written and read back. -/
import Derived.Test.YtnbjogilidfkdaaGreatVR8
import Derived.Test.YtnbjogilidfkdaaGreatVFE

namespace Go.Proofs.YtnbjogilidfkdaaGreat
attribute [local irreducible] awp arun acalm FinP Fin AX.then AX.inBlock Again aG gsel amix amixN amixC aop aopc aopd cutK
attribute [local go_sem] aBSliceD aSlice aSliceC boundOf aMk aCall aCallC aLenL aLen aPick_t aPick_f aNil aAlloc aBox aBuild bldPV aBSlice bsPV aApp newsOf destOf drp aConvX aConv aConvInt aLoad cellsAt aStore cellsPV setAt aFld aField aIdx aIndex aUn aBin' aBin aMax aExtract pvOf PV.isCell nmbL PV.nmb List.map_cons List.map_nil List.all_cons List.all_nil Bool.and_true Bool.true_and if_true if_false List.getD_cons_zero List.getD_cons_succ List.getD_nil Option.isSome_some true_and and_true and_self eq_self true_or or_true List.drop_zero List.drop_succ_cons List.drop_nil List.take_zero List.take_succ_cons List.take_nil List.length_cons List.length_nil List.length_map Option.getD_some Option.getD_none List.nil_append List.cons_append List.append_nil Option.some.injEq exists_eq_left' List.getElem?_cons_zero List.getElem?_cons_succ Int.toNat_natCast Int.natCast_inj toNat_succ Nat.zero_add res res1 resC owns owns1 ownsC List.flatMap_cons List.flatMap_nil List.flatten_cons List.flatten_nil List.mem_cons List.not_mem_nil or_false false_or forall_eq forall_eq_or_imp isFro frz frz1 pureC tabA isBld List.cons.injEq PV.seq.injEq PV.int.injEq PV.str.injEq PV.bool.injEq PV.agg.injEq inR tab Γof aRes packR Option.map_some Option.map_none rel Prod.exists exists_and_left exists_eq_left and_assoc beq_self_eq_true Bool.not_true Bool.not_false decide_true decide_false List.set_cons_zero List.set_cons_succ rst_nil rst_cons
attribute [local go_sem ↓] evT upd_def aop aopc aopd
set_option maxRecDepth 100000
set_option linter.unusedVariables false
set_option linter.unusedSimpArgs false
open Go.RowKit
theorem ixs_any (s:ByteArray) (c:Int) (w:World) :
 Calls Tryz.prog 143 #[.string s,.int .u8 c] w fun e w'=>e= .returned (.int .i64 (Lib.indexByte s.data.toList c.toNat.toUInt8))∧w'=w:=by
 go_enter Tryz.func143,Tryz.ntmps143
 go_wp2
 rw [run_callFunc_extern Tryz.func156 (by kernel_rfl) (by kernel_rfl) (by kernel_rfl) (e:=Extern.BytealgIndexByte.indexByte) (by kernel_rfl),Lib.run_indexByteString]
 simp only [Result.andThen]
 rw [Oper.upon_value]
 go_wp2
 go_ret
 exact ⟨rfl,rfl⟩
@[go_sem] def ixC:PC:=rel (α:=Bs×Int) (fun x=>[.str x.1,.int .u8 x.2]) (fun x=>0≤x.2∧x.2<256) (fun x=> .int .i64 (ixB x.1 (ofI x.2)))
theorem ixs_c:PureOk Tryz.prog 143 ixC:=by
 refine rel_of_calls ⟨_,Tryz.func143,by kernel_rfl,by kernel_rfl⟩ ?_
 rintro c ⟨s,x⟩ vs hc hl hr
 simp only [RepL.cons_iff,RepL.nil_iff] at hr
 obtain ⟨v,_,rfl,hv,u,_,rfl,hu,rfl⟩:=hr
 unfold Rep at hv hu
 subst hv hu
 refine (ixs_any ⟨s.toArray⟩ x c.w).mono ?_
 rintro e w' ⟨rfl,rfl⟩
 refine ⟨_,rfl,?_,Below.refl _ _⟩
 unfold Rep
 rfl
theorem ix_any:PureOk Tryz.prog 125 ixC:=by
 refine pure_rel 2 (tab_cons ixs_c tab_nil) mixed [.tmp 4] Tryz.func125 rfl rfl (by kernel_rfl) (by kernel_rfl) (fun _=>rfl) (by kernel_rfl) ?_
 rintro ⟨s,x⟩ K ⟨h0,h1⟩ hK
 dsimp only at *
 unfold entry
 repeat' (first|((first|apply qa1);(try intro K hk);focus (simp only [go_sem,Nat.reduceEqDiff,↓reduceIte,reduceCtorEq];first|exact rfl|((repeat refine ai ?_);intros;apply hk;clear hk K)))|apply qw8|apply qw1|apply qw6|apply qt1|apply qw4)
 ((first|refine fin_ret ?_|refine fin_end ?_);simp only [go_sem,↓upd_def,↓reduceIte])
 exact hK
theorem hexL_at (n:Nat):([48,49,50,51,52,53,54,55,56,57,97,98,99,100,101,102]:Bs).getD n 0=hexL.getD n 0:=rfl
set_option maxHeartbeats 4000000 in
theorem scr_i:PureOk Tryz.prog 64 (tC fun s=> .str (scrS s)):=by
 refine pure_relA 1 (tabA_cons wstr_ok (tabA_cons wbyte_ok (tabA_cons bstr_ok (tabA_nil (Γof_ok (tab_cons has_i tab_nil)))))) (tab_cons has_i tab_nil) mixed [.tmp 2] Tryz.func64 rfl rfl (by kernel_rfl) (by kernel_rfl) (fun _=>rfl) (by kernel_rfl) ?_
 rintro s K hl hK
 unfold entry
 repeat' (first|((first|apply qa1);(try intro K hk);focus (simp only [go_sem,↓reduceIte];first|exact rfl|((repeat refine ai ?_);intros;apply hk;clear hk K)))|apply qw8|apply qw1|apply qw6|apply qt1|apply qw5)
 refine s_loop (ι:=Nat) (fun k=>[(0,.str s),(3,.ref 0 0),(4,.int .i64 k)]) (fun k=>[(0,.gen bld [.str (scrS (s.take k))])]) 1 (fun k=>k≤s.length) (fun k=>s.length - k) 0 (by omega) (by omega) ?_ ?_
 · simp [fits,fitsT,fitsM,upd_def,PV.nmb,MB.nmb,scrS]
 intro k hk
 have hbl:=byte_lt s k
 have hx1:=byte_lt hexL ((s.getD k 0).toNat / 16)
 have hx2:=byte_lt hexL ((s.getD k 0).toNat % 16)
 have hL1:=scrS_len (s.take k)
 rw [List.length_take_of_le hk] at hL1
 simp only [mkS,mkT,mkM]
 repeat' (first|((first|apply qa1|apply qh1|apply qg1 rfl|apply qcd);(try intro K hk);focus (simp only [go_sem,Nat.reduceEqDiff,Nat.reduceAdd,Nat.reduceLeDiff,↓reduceIte,reduceCtorEq,hexL_at,shr4,and15',List.length_append];first|exact rfl|((repeat refine ai ?_);intros;apply hk;clear hk K)))|apply qw8|apply qw1|apply qw6|apply qt1|apply qw5|apply qw2|apply qt2|apply qt4|apply qt5|apply qw3|apply qw4|apply qj1|apply qj2|apply qj3|apply qj4|apply qu1|(refine qj6 ?_ ?_<;>intro hc<;>(try simp only [hc])<;>(try simp only [decide_eq_true_eq,decide_eq_false_iff_not] at hc)<;>(try (exfalso;omega))))
 all_goals first
  | (refine s_again (k+1) ?_ ?_ ?_<;>(first|omega|(dsimp only;omega)|skip)
     have hS:scrS (s.take (k+1))=scrS (s.take k)++scr1 (s.getD k 0):=flatMap_snoc (by omega)
     rw [hS]
     clear hK
     generalize s.getD k 0=b at *
     first
      | (rw [show scr1 b=code4 b by unfold scr1;rw [if_pos (by unfold spec4;first|(rw [decide_eq_true (p:=b.toNat<32) (by omega)];rfl)|(rw [decide_eq_true (p:=126<b.toNat) (by omega),Bool.or_true];rfl)|(simp only [*,Bool.or_true]))]]
         simp [fits,fitsT,fitsM,upd_def,PV.nmb,MB.nmb,code4]
         done)
      | (rw [show scr1 b=[b] by unfold scr1;rw [if_neg (by unfold spec4;rw [decide_eq_false (p:=b.toNat<32) (by omega),decide_eq_false (p:=126<b.toNat) (by omega)];simp only [*];decide)]]
         simp [fits,fitsT,fitsM,upd_def,PV.nmb,MB.nmb]
         done))
  | (((first|refine fin_ret ?_|refine fin_end ?_);simp only [go_sem,↓upd_def,↓reduceIte])
     rw [List.take_of_length_le (by omega)]
     exact hK)
theorem spec4_iff (b:UInt8):spec4 b=true↔(b.toNat=92∨b.toNat=34∨b.toNat=39∨b.toNat=60∨b.toNat=62∨b.toNat=38∨b.toNat<32∨126<b.toNat):=by
 simp [spec4,hasB]
 omega
set_option maxHeartbeats 4000000 in
theorem spec4_s:PureOk Tryz.prog 133 (byC fun b=> .bool (spec4 b)):=by
 refine pure_rel 1 tab_nil mixed [.tmp 2] Tryz.func133 rfl rfl (by kernel_rfl) (by kernel_rfl) (fun _=>rfl) (by kernel_rfl) ?_
 rintro x K ⟨h0,h1⟩ hK
 obtain ⟨b,rfl⟩:=byte_of h0 h1
 simp only [ofI_nat] at hK
 unfold entry
 repeat' (first|((first|apply qa1|apply qa2|apply qa3|apply qh1|apply qh2|apply qg1 rfl|apply qcd);(try intro K hk);focus (simp only [go_sem,Nat.reduceEqDiff,Nat.reduceAdd,Nat.reduceLeDiff,Nat.reduceLT,Nat.reduceSub,Int.reduceToNat,↓reduceIte,reduceCtorEq];first|exact rfl|((repeat refine ai ?_);intros;apply hk;clear hk K)))|apply qw8|apply qw1|apply qw6|apply qt1|apply qw5|apply qw2|apply qw9|apply qt2|apply qt3|apply qt4|apply qt5|apply qt6|apply qw3|apply qw4|apply qj1|apply qj2|apply qj3|apply qj4|apply qj5|apply qu1|apply qu2|(refine qj6 ?_ ?_<;>intro hc<;>(try simp only [hc])<;>(try simp only [decide_eq_true_eq,decide_eq_false_iff_not,Bool.not_eq_true',Bool.not_eq_false',Bool.not_eq_true,reduceCtorEq] at hc)<;>(try (exfalso;omega)))|(refine qt7 ?_ ?_;focus decide)|(refine qw7 ?_ ?_ ?_;(focus (decide +kernel));(focus (decide +kernel))))
 all_goals
  ((first|refine fin_ret ?_|refine fin_end ?_);simp only [go_sem,↓upd_def,Nat.reduceEqDiff,Nat.reduceAdd,↓reduceIte,reduceCtorEq])
  refine K_bool hK ?_
  clear hK
  first
   | (rw [(spec4_iff b).2 (by omega)];done)
   | (rw [Bool.eq_iff_iff,spec4_iff,decide_eq_true_iff];omega)
set_option maxHeartbeats 4000000 in
theorem code4_s:PureOk Tryz.prog 134 (byC fun b=> .str (code4 b)):=by
 refine pure_rel 1 tab_nil mixed [.tmp 2] Tryz.func134 rfl rfl (by kernel_rfl) (by kernel_rfl) (fun _=>rfl) (by kernel_rfl) ?_
 rintro x K ⟨h0,h1⟩ hK
 obtain ⟨b,rfl⟩:=byte_of h0 h1
 simp only [ofI_nat] at hK
 have q1:=cut1 (l:=hexL) (i:=(b.toNat:Int) / 16) (n:=b.toNat / 16) (by omega) (by show _<16;omega)
 have q2:=cut1 (l:=hexL) (i:=(b.toNat:Int) % 16) (n:=b.toNat % 16) (by omega) (by show _<16;omega)
 unfold hexL at q1 q2
 unfold entry
 repeat' (first|((first|apply qa1|apply qa2|apply qa3|apply qh1|apply qh2|apply qg1 rfl|apply qcd);(try intro K hk);focus (simp only [go_sem,Nat.reduceEqDiff,Nat.reduceAdd,Nat.reduceLeDiff,Nat.reduceLT,Nat.reduceSub,Int.reduceToNat,↓reduceIte,reduceCtorEq,q1,q2];first|exact rfl|((repeat refine ai ?_);intros;apply hk;clear hk K)))|apply qw8|apply qw1|apply qw6|apply qt1|apply qw5|apply qw2|apply qw9|apply qt2|apply qt3|apply qt4|apply qt5|apply qt6|apply qw3|apply qw4|apply qj1|apply qj2|apply qj3|apply qj4|apply qj5|apply qu1|apply qu2|(refine qj6 ?_ ?_<;>intro hc<;>(try simp only [hc])<;>(try simp only [decide_eq_true_eq,decide_eq_false_iff_not,Bool.not_eq_true',Bool.not_eq_false',Bool.not_eq_true,reduceCtorEq] at hc)<;>(try (exfalso;omega)))|(refine qt7 ?_ ?_;focus decide)|(refine qw7 ?_ ?_ ?_;(focus (decide +kernel));(focus (decide +kernel))))
 all_goals
  ((first|refine fin_ret ?_|refine fin_end ?_);simp only [go_sem,↓upd_def,Nat.reduceEqDiff,Nat.reduceAdd,↓reduceIte,reduceCtorEq])
  exact hK
set_option maxHeartbeats 4000000 in
theorem scr_s:PureOk Tryz.prog 112 (tC fun s=> .str (scrS s)):=by
 refine pure_rel 1 (tab_cons spec4_s (tab_cons code4_s tab_nil)) mixed [.tmp 2] Tryz.func112 rfl rfl (by kernel_rfl) (by kernel_rfl) (fun _=>rfl) (by kernel_rfl) ?_
 rintro s K hl hK
 unfold entry
 repeat' (first|((first|apply qa1|apply qa2|apply qa3|apply qh1|apply qh2|apply qg1 rfl|apply qcd);(try intro K hk);focus (simp only [go_sem,Nat.reduceEqDiff,Nat.reduceAdd,Nat.reduceLeDiff,Nat.reduceLT,Nat.reduceSub,Int.reduceToNat,↓reduceIte,reduceCtorEq];first|exact rfl|((repeat refine ai ?_);intros;apply hk;clear hk K)))|apply qw8|apply qw1|apply qw6|apply qt1|apply qw5|apply qw2|apply qw9|apply qt2|apply qt3|apply qt4|apply qt5|apply qt6|apply qw3|apply qw4|apply qj1|apply qj2|apply qj3|apply qj4|apply qj5|apply qu1|apply qu2|(refine qj6 ?_ ?_<;>intro hc<;>(try simp only [hc])<;>(try simp only [decide_eq_true_eq,decide_eq_false_iff_not,Bool.not_eq_true',Bool.not_eq_false',Bool.not_eq_true,reduceCtorEq] at hc)<;>(try (exfalso;omega)))|(refine qt7 ?_ ?_;focus decide)|(refine qw7 ?_ ?_ ?_;(focus (decide +kernel));(focus (decide +kernel))))
 refine s_loop (ι:=Nat) (fun k=>[(0,.str s),(3,.str (scrS (s.take k))),(4,.int .i64 k)]) (fun _=>[]) 0 (fun k=>k≤s.length) (fun k=>s.length - k) 0 (by omega) (by omega) ?_ ?_
 · simp [fits,fitsT,fitsM,upd_def,PV.nmb,nmbL,MB.nmb,List.getD_cons_zero,List.getD_cons_succ,scrS]
 intro k hk
 have hbl:=byte_lt s k
 have hL1:=scrS_len (s.take k)
 rw [List.length_take_of_le hk] at hL1
 have hL2:=scr1_len (s.getD k 0)
 have hL3:(code4 (s.getD k 0)).length=4:=rfl
 have q:k<s.length→List.drop k (List.take (k+1) s)=[s.getD k 0]:=fun h=>by rw [List.drop_take,drop_getD h];simp
 by_cases hks:k<s.length
 · replace q:=q hks
   simp only [mkS,mkT,mkM]
   repeat' (first|((first|apply qa1|apply qa2|apply qa3|apply qh1|apply qh2|apply qg1 rfl|apply qcd);(try intro K hk);focus (simp only [go_sem,Nat.reduceEqDiff,Nat.reduceAdd,Nat.reduceLeDiff,Nat.reduceLT,Nat.reduceSub,Int.reduceToNat,↓reduceIte,reduceCtorEq,toNat_succ,q];first|exact rfl|((repeat refine ai ?_);intros;apply hk;clear hk K)))|apply qw8|apply qw1|apply qw6|apply qt1|apply qw5|apply qw2|apply qw9|apply qt2|apply qt3|apply qt4|apply qt5|apply qt6|apply qw3|apply qw4|apply qj1|apply qj2|apply qj3|apply qj4|apply qj5|apply qu1|apply qu2|(refine qj6 ?_ ?_<;>intro hc<;>(try simp only [hc])<;>(try simp only [decide_eq_true_eq,decide_eq_false_iff_not,Bool.not_eq_true',Bool.not_eq_false',Bool.not_eq_true,reduceCtorEq] at hc)<;>(try (exfalso;omega)))|(refine qt7 ?_ ?_;focus decide)|(refine qw7 ?_ ?_ ?_;(focus (decide +kernel));(focus (decide +kernel))))
   all_goals first
    | (refine s_again (k+1) ?_ ?_ ?_<;>(first|omega|(dsimp only;omega)|skip)
       have hS:scrS (s.take (k+1))=scrS (s.take k)++scr1 (s.getD k 0):=flatMap_snoc (by omega)
       simp [fits,fitsT,fitsM,upd_def,PV.nmb,nmbL,MB.nmb,List.getD_cons_zero,List.getD_cons_succ,hS,scr1, *,-List.getD_eq_getElem?_getD]
       done)
 clear q
 simp only [mkS,mkT,mkM]
 repeat' (first|((first|apply qa1|apply qa2|apply qa3|apply qh1|apply qh2|apply qg1 rfl|apply qcd);(try intro K hk);focus (simp only [go_sem,Nat.reduceEqDiff,Nat.reduceAdd,Nat.reduceLeDiff,Nat.reduceLT,Nat.reduceSub,Int.reduceToNat,↓reduceIte,reduceCtorEq];first|exact rfl|((repeat refine ai ?_);intros;apply hk;clear hk K)))|apply qw8|apply qw1|apply qw6|apply qt1|apply qw5|apply qw2|apply qw9|apply qt2|apply qt3|apply qt4|apply qt5|apply qt6|apply qw3|apply qw4|apply qj1|apply qj2|apply qj3|apply qj4|apply qj5|apply qu1|apply qu2|(refine qj6 ?_ ?_<;>intro hc<;>(try simp only [hc])<;>(try simp only [decide_eq_true_eq,decide_eq_false_iff_not,Bool.not_eq_true',Bool.not_eq_false',Bool.not_eq_true,reduceCtorEq] at hc)<;>(try (exfalso;omega)))|(refine qt7 ?_ ?_;focus decide)|(refine qw7 ?_ ?_ ?_;(focus (decide +kernel));(focus (decide +kernel))))
 all_goals first
  | (((first|refine fin_ret ?_|refine fin_end ?_);simp only [go_sem,↓upd_def,Nat.reduceEqDiff,Nat.reduceAdd,↓reduceIte,reduceCtorEq])
     rw [List.take_of_length_le (by omega)]
     exact hK)
end Go.Proofs.YtnbjogilidfkdaaGreat
