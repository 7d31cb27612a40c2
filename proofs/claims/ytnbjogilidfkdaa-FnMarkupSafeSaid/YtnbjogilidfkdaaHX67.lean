/- Contracts: clean markup, the reference's. -/
import Derived.Test.YtnbjogilidfkdaaHX66
import Derived.Test.YtnbjogilidfkdaaHX65
import Derived.Test.YtnbjogilidfkdaaHX63
import Derived.Test.YtnbjogilidfkdaaHR14
import Derived.Test.YtnbjogilidfkdaaHXC
import Derived.Test.YtnbjogilidfkdaaHK31

namespace Go.Proofs.Ytnbjogilidfkdaa
attribute [local irreducible] awp arun acalm FinP Fin AX.then AX.inBlock Again aG gsel amix amixN amixC aop aopc aopd cutK
attribute [local go_sem] aBSliceD aSlice aSliceC boundOf aMk aCall aCallC aLenL aLen aPick_t aPick_f aNil aAlloc aBox aBuild bldPV aBSlice bsPV aApp newsOf destOf drp aConvX aConv aConvInt aLoad cellsAt aStore cellsPV setAt aFld aField aIdx aIndex aUn aBin' aBin aMax aExtract pvOf PV.isCell nmbL PV.nmb List.map_cons List.map_nil List.all_cons List.all_nil Bool.and_true Bool.true_and if_true if_false List.getD_cons_zero List.getD_cons_succ List.getD_nil Option.isSome_some true_and and_true and_self eq_self true_or or_true List.drop_zero List.drop_succ_cons List.drop_nil List.take_zero List.take_succ_cons List.take_nil List.length_cons List.length_nil List.length_map Option.getD_some Option.getD_none List.nil_append List.cons_append List.append_nil Option.some.injEq exists_eq_left' List.getElem?_cons_zero List.getElem?_cons_succ Int.toNat_natCast Int.natCast_inj toNat_succ Nat.zero_add res res1 resC owns owns1 ownsC List.flatMap_cons List.flatMap_nil List.flatten_cons List.flatten_nil List.mem_cons List.not_mem_nil or_false false_or forall_eq forall_eq_or_imp isFro frz frz1 pureC tabA isBld List.cons.injEq PV.seq.injEq PV.int.injEq PV.str.injEq PV.bool.injEq PV.agg.injEq inR tab Γof aRes packR Option.map_some Option.map_none rel Prod.exists exists_and_left exists_eq_left and_assoc beq_self_eq_true Bool.not_true Bool.not_false decide_true decide_false List.set_cons_zero List.set_cons_succ rst_nil rst_cons
attribute [local go_sem ↓] evT upd_def aop aopc aopd
set_option maxRecDepth 100000
set_option linter.unusedVariables false
set_option linter.unusedSimpArgs false
open Go.RowKit
def lvX67_34:Nat→List Nat
 | 0=>[0]
 | 1=>[4,5]
 | 2=>[4,12]
 | 3=>[2,3]
 | 4=>[2,3]
 | _=>[]
--LV=X67
theorem cm_s:PureOk Try.prog 34 cmC:=by
 refine pure_rel 1 (tab_cons tok_s (tab_cons cn_s (tab_cons pt_s tab_nil))) mixed [.tmp 2,.tmp 3] Try.func34 rfl rfl (by kernel_rfl) (by kernel_rfl) (fun _=>rfl) (by kernel_rfl) ?_
 rintro s K hsl hK
 unfold entry
 cases ht:tokM s with
 | none =>
   rw [cm_none ht] at hK
   repeat' (first|((first|apply qwd|apply qa1|apply qcd);(try intro K hk);focus (simp only [lvX67_34,mkT,go_sem,Nat.reduceEqDiff,↓reduceIte,reduceCtorEq,ht,Option.isSome_none,Option.getD_none,Bool.not_false];first|exact rfl|((repeat refine ai ?_);intros;apply hk;clear hk K)))|apply qw1|refine qwc lvX67_34 ?_|apply qt1|apply qt3|apply qw4|apply qj1)
   ((first|refine fin_ret ?_|refine fin_end ?_);simp only [go_sem,↓upd_def,Nat.reduceEqDiff,↓reduceIte])
   exact hK
 | some l =>
 rw [cm_some ht] at hK
 have hwf:wfTks l:=wf_tok ht
 have hgd:=gd_clean ht
 repeat' (first|((first|apply qwd|apply qa1|apply qcd);(try intro K hk);focus (simp only [lvX67_34,mkT,go_sem,Nat.reduceEqDiff,↓reduceIte,reduceCtorEq,ht,Option.isSome_some,Option.getD_some,Bool.not_true,encTks_iff];first|exact rfl|((repeat refine ai ?_);intros;apply hk;clear hk K)))|apply qw1|refine qwc lvX67_34 ?_|apply qt1|apply qw2|apply qw4|apply qj4)
 ((first|refine fin_ret ?_|refine fin_end ?_);simp only [go_sem,↓upd_def,Nat.reduceEqDiff,↓reduceIte])
 exact hK
end Go.Proofs.Ytnbjogilidfkdaa

/- Drawn markup, clean or not. -/
namespace Go.Proofs.Ytnbjogilidfkdaa
attribute [local irreducible] awp arun acalm FinP Fin AX.then AX.inBlock Again aG gsel amix amixN amixC aop aopc aopd cutK
attribute [local go_sem] aBSliceD aSlice aSliceC boundOf aMk aCall aCallC aLenL aLen aPick_t aPick_f aNil aAlloc aBox aBuild bldPV aBSlice bsPV aApp newsOf destOf drp aConvX aConv aConvInt aLoad cellsAt aStore cellsPV setAt aFld aField aIdx aIndex aUn aBin' aBin aMax aExtract pvOf PV.isCell nmbL PV.nmb List.map_cons List.map_nil List.all_cons List.all_nil Bool.and_true Bool.true_and if_true if_false List.getD_cons_zero List.getD_cons_succ List.getD_nil Option.isSome_some true_and and_true and_self eq_self true_or or_true List.drop_zero List.drop_succ_cons List.drop_nil List.take_zero List.take_succ_cons List.take_nil List.length_cons List.length_nil List.length_map Option.getD_some Option.getD_none List.nil_append List.cons_append List.append_nil Option.some.injEq exists_eq_left' List.getElem?_cons_zero List.getElem?_cons_succ Int.toNat_natCast Int.natCast_inj toNat_succ Nat.zero_add res res1 resC owns owns1 ownsC List.flatMap_cons List.flatMap_nil List.flatten_cons List.flatten_nil List.mem_cons List.not_mem_nil or_false false_or forall_eq forall_eq_or_imp isFro frz frz1 pureC tabA isBld List.cons.injEq PV.seq.injEq PV.int.injEq PV.str.injEq PV.bool.injEq PV.agg.injEq inR tab Γof aRes packR Option.map_some Option.map_none rel Prod.exists exists_and_left exists_eq_left and_assoc beq_self_eq_true Bool.not_true Bool.not_false decide_true decide_false List.set_cons_zero List.set_cons_succ rst_nil rst_cons
attribute [local go_sem ↓] evT upd_def aop aopc aopd
set_option maxRecDepth 100000
set_option linter.unusedVariables false
set_option linter.unusedSimpArgs false
open Go.RowKit
--LV=R16
theorem cm_len {s x:Bs} (h:cmM s=some x):x.length≤600:=by
 unfold cmM at h
 cases ht:tokM s with
 | none=>rw [ht] at h;cases h
 | some l =>
   rw [ht] at h
   have h:ptM (cleanMk l)=some x:=h
   unfold ptM at h
   split at h
   · rename_i hv
     cases h
     exact hv.2
   · cases h
theorem cmD_len (s:Bs):((cmM s).getD []).length≤600:=by
 cases h:cmM s with
 | none=>exact Nat.zero_le _
 | some x=>exact cm_len h
theorem drwMS:ACok Try.prog 33 (drwG (α:=Bs) (fun s=>s.length≤1000) (fun s=> .str s)):=drw_of (by
 refine ac_body 1 (tabA_cons open_ok (tabA_cons mkD_ok (tabA_cons pick_ok (tabA_nil (Γof_ok (tab_cons cm_s tab_nil)))))) (tab_cons cm_s tab_nil) mixed [.tmp 2] Try.func33 rfl rfl (by kernel_rfl) (by kernel_rfl) ?_ (by kernel_rfl) ?_
 · intro args mem n K h
   obtain ⟨es,rfl,h⟩:=drw_args h
   rfl
 intro args mem n K h
 obtain ⟨es,rfl,⟨l,rfl,hl⟩,hK⟩:=drw_args h
 have hba:=bc_all l
 unfold entry
 repeat' (first|((first|apply qa1|apply qcd);(try intro K hk);focus (simp only [go_sem,Nat.reduceEqDiff,↓reduceIte,exl,q_1,q_2,q_3,q_9];first|exact rfl|((repeat refine ai ?_);intros;apply hk;clear hk K)))|apply qw8|apply qw1|apply qw6|apply qt1|apply qw2|apply qt3|apply qw4|apply qj1|apply qj4|(refine qj6 ?_ ?_<;>intro hc<;>(try simp only [hc])<;>(try simp only [decide_eq_true_eq,decide_eq_false_iff_not] at hc)<;>(try (exfalso;omega))))
 all_goals
  refine fin_retA ?_
  simp only [go_sem,↓upd_def,↓reduceIte]
  refine hK _ _ _ _ ?_ rfl (by omega)
  first
   | omega
   | exact Nat.le_trans (cmD_len _) (by decide))
end Go.Proofs.Ytnbjogilidfkdaa

/- The laws' walks: safe markup, clean markup, at any text. -/
namespace Go.Proofs.Ytnbjogilidfkdaa
attribute [local irreducible] awp arun acalm FinP Fin AX.then AX.inBlock Again aG gsel amix amixN amixC aop aopc aopd cutK
attribute [local go_sem] aBSliceD aSlice aSliceC boundOf aMk aCall aCallC aLenL aLen aPick_t aPick_f aNil aAlloc aBox aBuild bldPV aBSlice bsPV aApp newsOf destOf drp aConvX aConv aConvInt aLoad cellsAt aStore cellsPV setAt aFld aField aIdx aIndex aUn aBin' aBin aMax aExtract pvOf PV.isCell nmbL PV.nmb List.map_cons List.map_nil List.all_cons List.all_nil Bool.and_true Bool.true_and if_true if_false List.getD_cons_zero List.getD_cons_succ List.getD_nil Option.isSome_some true_and and_true and_self eq_self true_or or_true List.drop_zero List.drop_succ_cons List.drop_nil List.take_zero List.take_succ_cons List.take_nil List.length_cons List.length_nil List.length_map Option.getD_some Option.getD_none List.nil_append List.cons_append List.append_nil Option.some.injEq exists_eq_left' List.getElem?_cons_zero List.getElem?_cons_succ Int.toNat_natCast Int.natCast_inj toNat_succ Nat.zero_add res res1 resC owns owns1 ownsC List.flatMap_cons List.flatMap_nil List.flatten_cons List.flatten_nil List.mem_cons List.not_mem_nil or_false false_or forall_eq forall_eq_or_imp isFro frz frz1 pureC tabA isBld List.cons.injEq PV.seq.injEq PV.int.injEq PV.str.injEq PV.bool.injEq PV.agg.injEq inR tab Γof aRes packR Option.map_some Option.map_none rel Prod.exists exists_and_left exists_eq_left and_assoc beq_self_eq_true Bool.not_true Bool.not_false decide_true decide_false List.set_cons_zero List.set_cons_succ rst_nil rst_cons
attribute [local go_sem ↓] evT upd_def aop aopc aopd
set_option maxRecDepth 100000
set_option linter.unusedVariables false
set_option linter.unusedSimpArgs false
open Go.RowKit
def lvY45_5:Nat→List Nat
 | 0=>[0]
 | 1=>[0,7]
 | 2=>[2]
 | 3=>[0,3]
 | 4=>[3,4]
 | 5=>[14]
 | 6=>[2]
 | 7=>[2]
 | _=>[]
def lvY45_9:Nat→List Nat
 | 0=>[0]
 | 1=>[0,9]
 | 2=>[2]
 | 3=>[0,3,4]
 | 4=>[3,4,5,6]
 | 5=>[27]
 | 6=>[2]
 | 7=>[2]
 | _=>[]
--LV=Y45
set_option maxHeartbeats 8000000 in
theorem FnExactMarkupSafe_pure:PureOk Try.prog 5 (rel (α:=Bs) (fun x=>[.str x]) (fun x=>x.length≤9223372036854775807) (fun _=> .bool true)):=by
 refine pure_rel 1 (tab_cons ms_i (tab_cons ms_s tab_nil)) mixed [.tmp 2] Try.func5 rfl rfl (by kernel_rfl) (by kernel_rfl) (fun _=>rfl) (by kernel_rfl) ?_
 rintro s K hl hK
 unfold entry
 repeat' (first|((first|apply qwd|apply qa1|apply qcd);(try intro K hk);focus (simp only [lvY45_5,mkT,go_sem,Nat.reduceEqDiff,↓reduceIte,reduceCtorEq,exl,Bool.not_true];first|exact rfl|((repeat refine ai ?_);intros;apply hk;clear hk K)))|apply qw1|refine qwc lvY45_5 ?_|apply qt1|apply qw2|apply qt3|apply qw4|apply qj1|apply qj4|(refine qj6 ?_ ?_<;>intro hc<;>(try simp only [hc])<;>(try simp only [decide_eq_true_eq,decide_eq_false_iff_not] at hc)<;>(try (exfalso;omega))))
 all_goals first
  | (((first|refine fin_ret ?_|refine fin_end ?_);simp only [go_sem,↓upd_def,↓reduceIte])
     exact hK)
  | skip
set_option maxHeartbeats 8000000 in
theorem FnExactCleanMarkup_pure:PureOk Try.prog 9 (rel (α:=Bs) (fun x=>[.str x]) (fun x=>x.length≤9223372036854775807) (fun _=> .bool true)):=by
 refine pure_rel 1 (tab_cons cm_i (tab_cons cm_s tab_nil)) mixed [.tmp 2] Try.func9 rfl rfl (by kernel_rfl) (by kernel_rfl) (fun _=>rfl) (by kernel_rfl) ?_
 rintro s K hl hK
 unfold entry
 repeat' (first|((first|apply qwd|apply qa1|apply qh1|apply qg1 rfl|apply qcd);(try intro K hk);focus (simp only [lvY45_9,mkT,go_sem,Nat.reduceEqDiff,↓reduceIte,reduceCtorEq,exl,Bool.not_true];first|exact rfl|((repeat refine ai ?_);intros;apply hk;clear hk K)))|apply qw1|refine qwc lvY45_9 ?_|apply qt1|apply qw2|apply qt3|apply qw4|apply qj1|apply qj2|apply qj4|apply qu1|(refine qj6 ?_ ?_<;>intro hc<;>(try simp only [hc])<;>(try simp only [decide_eq_true_eq,decide_eq_false_iff_not] at hc)<;>(try (exfalso;omega))))
 all_goals first
  | (((first|refine fin_ret ?_|refine fin_end ?_);simp only [go_sem,↓upd_def,↓reduceIte])
     exact hK)
  | skip
end Go.Proofs.Ytnbjogilidfkdaa

/- The laws' walks: safe markup, clean markup, drawn. -/
namespace Go.Proofs.Ytnbjogilidfkdaa
attribute [local irreducible] awp arun acalm FinP Fin AX.then AX.inBlock Again aG gsel amix amixN amixC aop aopc aopd cutK
attribute [local go_sem] aBSliceD aSlice aSliceC boundOf aMk aCall aCallC aLenL aLen aPick_t aPick_f aNil aAlloc aBox aBuild bldPV aBSlice bsPV aApp newsOf destOf drp aConvX aConv aConvInt aLoad cellsAt aStore cellsPV setAt aFld aField aIdx aIndex aUn aBin' aBin aMax aExtract pvOf PV.isCell nmbL PV.nmb List.map_cons List.map_nil List.all_cons List.all_nil Bool.and_true Bool.true_and if_true if_false List.getD_cons_zero List.getD_cons_succ List.getD_nil Option.isSome_some true_and and_true and_self eq_self true_or or_true List.drop_zero List.drop_succ_cons List.drop_nil List.take_zero List.take_succ_cons List.take_nil List.length_cons List.length_nil List.length_map Option.getD_some Option.getD_none List.nil_append List.cons_append List.append_nil Option.some.injEq exists_eq_left' List.getElem?_cons_zero List.getElem?_cons_succ Int.toNat_natCast Int.natCast_inj toNat_succ Nat.zero_add res res1 resC owns owns1 ownsC List.flatMap_cons List.flatMap_nil List.flatten_cons List.flatten_nil List.mem_cons List.not_mem_nil or_false false_or forall_eq forall_eq_or_imp isFro frz frz1 pureC tabA isBld List.cons.injEq PV.seq.injEq PV.int.injEq PV.str.injEq PV.bool.injEq PV.agg.injEq inR tab Γof aRes packR Option.map_some Option.map_none rel Prod.exists exists_and_left exists_eq_left and_assoc beq_self_eq_true Bool.not_true Bool.not_false decide_true decide_false List.set_cons_zero List.set_cons_succ rst_nil rst_cons
attribute [local go_sem ↓] evT upd_def aop aopc aopd
set_option maxRecDepth 100000
set_option linter.unusedVariables false
set_option linter.unusedSimpArgs false
open Go.RowKit
def lvY46_8:Nat→List Nat
 | 0=>[0]
 | 1=>[0,11]
 | 2=>[2]
 | 3=>[3]
 | 4=>[3,4]
 | 5=>[3,4,19]
 | 6=>[2]
 | 7=>[3,4,5,6]
 | 8=>[3,4,5,6,7]
 | 9=>[3,4,5,6,7,31]
 | 10=>[3,4,5,6,7]
 | 11=>[3,4,5,6,7,47]
 | 12=>[2]
 | 13=>[4,5,6,8]
 | 14=>[2]
 | _=>[]
def lvY46_11:Nat→List Nat
 | 0=>[0]
 | 1=>[0,12]
 | 2=>[2]
 | 3=>[3]
 | 4=>[3,4,5]
 | 5=>[4,5,6,7]
 | 6=>[4,5,32]
 | 7=>[2]
 | 8=>[4,34]
 | 9=>[2]
 | 10=>[4,8,9]
 | 11=>[2]
 | _=>[]
--LV=Y46
theorem cmD_no {s:Bs} (h:(cmM s).isSome=false):(cmM s).getD []=[]:=by cases ht:cmM s<;>simp_all
theorem ms_yes {s:Bs} (h:msM s=true): ∃ l,tokM s=some l∧balF [] l=true∧ ∀ t ∈ l,t.kind≠4∧t.kind≠5:=by
 cases ht:tokM s with
 | none=>rw [ms_none ht] at h;cases h
 | some l =>
   have h2:mkSafe l=true:=by unfold msM at h;rw [ht] at h;exact h
   rw [ms_some ht,Bool.and_eq_true] at h
   exact ⟨l,rfl,h.1,safe_no h2⟩
set_option maxHeartbeats 8000000 in
theorem FnMarkupSafe_pure:PureOk Try.prog 8 (rel (α:=Bs) (fun x=>[.seq (x.map bc)]) (fun x=>x.length≤9223372036854775807) (fun _=> .bool true)):=by
 refine pure_relA 1 (tabA_cons drwMS (tabA_nil (Γof_ok (tab_cons ms_i (tab_cons ms_s (tab_cons tok_i (tab_cons ba_i (tab_cons text_i (tab_cons esc_i (tab_cons alive9 tab_nil)))))))))) (tab_cons ms_i (tab_cons ms_s (tab_cons tok_i (tab_cons ba_i (tab_cons text_i (tab_cons esc_i (tab_cons alive9 tab_nil))))))) mixed [.tmp 2] Try.func8 rfl rfl (by kernel_rfl) (by kernel_rfl) (fun _=>rfl) (by kernel_rfl) ?_
 rintro l0 K hl hK
 have hba:=bc_all l0
 unfold entry
 repeat' (first|((first|apply qwd|apply qa1|apply qcd);(try intro K hk);focus (simp only [lvY46_8,mkT,go_sem,Nat.reduceEqDiff,↓reduceIte,reduceCtorEq,exl,true_and,Bool.not_true];first|exact rfl|((repeat refine ai ?_);intros;apply hk;clear hk K)))|apply qw1|refine qwc lvY46_8 ?_|apply qt1|apply qw5|apply qw2|apply qt3|apply qw4|apply qj1|apply qj4|(refine qj6 ?_ ?_<;>intro hc<;>(try simp only [hc])<;>(try simp only [decide_eq_true_eq,decide_eq_false_iff_not] at hc)<;>(try (exfalso;omega))))
 · ((first|refine fin_ret ?_|refine fin_end ?_);simp only [go_sem,↓upd_def,↓reduceIte])
   exact hK
 rename Bs=>s
 obtain ⟨p,hp⟩: ∃ p,s.take (min (s.length:Int) 100).toNat=p:=⟨_,rfl⟩
 have hpl:p.length≤100:=by rw [← hp,List.length_take];omega
 have hel:=escT_len p
 cases hms:msM s with
 | false =>
   skip
   generalize (tokM s).getD []=L at *
   generalize (tokM s).isSome=g at *
   refine s_loop (ι:=Unit) (fun _=>[(3,.str s),(4,.bool false),(5,.seq (encTks L)),(6,.bool g),(7,.int .i64 0)]) (fun _=>[]) 0 (fun _=>True) (fun _=>0) () (by omega) trivial ?_ ?_
   · simp [fits,fitsT,fitsM,upd_def,PV.nmb]
   intro u hu
   simp only [mkS,mkT,mkM]
   cases htx:textB p with
   | false =>
     repeat' (first|((first|apply qwd|apply qa1|apply qh1|apply qg1 rfl|apply qcd);(try intro K hk);focus (simp only [lvY46_8,mkT,go_sem,Nat.reduceEqDiff,↓reduceIte,exl,ex_unit9,true_and,hp,htx,encTks_len,Bool.not_false];first|exact rfl|((repeat refine ai ?_);intros;apply hk;clear hk K)))|apply qw1|refine qwc lvY46_8 ?_|apply qt1|apply qt2|apply qt5|apply qw3|apply qw4|apply qj1|apply qj3|apply qj4|apply qj5|apply qu1|(refine qj6 ?_ ?_<;>intro hc<;>(try simp only [hc])<;>(try simp only [decide_eq_true_eq,decide_eq_false_iff_not] at hc)<;>(try (exfalso;omega))))
     all_goals first
      | (((first|refine fin_ret ?_|refine fin_end ?_);simp only [go_sem,↓upd_def,↓reduceIte])
         exact hK)
      | skip
   | true =>
     have hes:=esc_safe htx hpl
     repeat' (first|((first|apply qwd|apply qa1|apply qh1|apply qg1 rfl|apply qcd);(try intro K hk);focus (simp only [lvY46_8,mkT,go_sem,Nat.reduceEqDiff,↓reduceIte,exl,ex_unit9,true_and,hp,htx,hes,encTks_len,Bool.not_true,Bool.not_false];first|exact rfl|((repeat refine ai ?_);intros;apply hk;clear hk K)))|apply qw1|refine qwc lvY46_8 ?_|apply qt1|apply qt2|apply qt5|apply qw3|apply qw4|apply qj1|apply qj2|apply qj3|apply qj4|apply qj5|apply qu1|(refine qj6 ?_ ?_<;>intro hc<;>(try simp only [hc])<;>(try simp only [decide_eq_true_eq,decide_eq_false_iff_not] at hc)<;>(try (exfalso;omega))))
     all_goals first
      | (((first|refine fin_ret ?_|refine fin_end ?_);simp only [go_sem,↓upd_def,↓reduceIte])
         exact hK)
      | skip
 | true =>
   obtain ⟨l,ht,hbal,hno⟩:=ms_yes hms
   obtain ⟨hsm,hwf⟩:=wf_tok ht
   obtain ⟨hl9,hall⟩:=id hsm
   skip
   refine s_loop (ι:=Nat) (fun k=>[(3,.str s),(4,.bool true),(5,.seq (encTks l)),(6,.bool true),(7,.int .i64 k)]) (fun _=>[]) 0 (fun k=>k≤l.length) (fun k=>l.length - k) 0 (by omega) (Nat.zero_le _) ?_ ?_
   · simp [fits,fitsT,fitsM,upd_def,PV.nmb,ht]
   intro k hk
   simp only [mkS,mkT,mkM]
   by_cases hkl:k<l.length
   · obtain ⟨⟨kd,nm,v,ps⟩,hx⟩:=get_some (xs:=l) (k:=k) hkl
     obtain ⟨n4,n5⟩:=hno _ (List.mem_of_getElem? hx)
     dsimp only at n4 n5
     have hg:(encTks l)[k]?=some [.int .i64 kd,.str nm,.str v,.seq (encPrs ps)]:=by rw [encTks_get,hx];rfl
     have hkn:((k:Nat):Int).toNat=k:=Int.toNat_natCast k
     have e4:decide (kd=4)=false:=decide_eq_false n4
     have e5:decide (kd=5)=false:=decide_eq_false n5
     repeat' (first|((first|apply qwd|apply qa1|apply qh1|apply qg1 rfl|apply qcd);(try intro K hk);focus (simp only [lvY46_8,mkT,go_sem,Nat.reduceEqDiff,Nat.reduceAdd,↓reduceIte,encTks_len,hg,hkn,e4,e5];first|exact rfl|((repeat refine ai ?_);intros;apply hk;clear hk K)))|apply qw1|refine qwc lvY46_8 ?_|apply qt1|apply qw5|apply qw2|apply qt4|apply qj1|apply qj2|apply qj4|apply qu1|(refine qj6 ?_ ?_<;>intro hc<;>(try simp only [hc])<;>(try simp only [decide_eq_true_eq,decide_eq_false_iff_not] at hc)<;>(try (exfalso;omega))))
     refine s_again (k+1) ?_ ?_ ?_<;>(first|omega|(dsimp only;omega)|skip)
     all_goals (simp [fits,fitsT,fitsM,upd_def,PV.nmb];done)
   · obtain rfl:k=l.length:=by omega
     cases htx:textB p with
     | false =>
       repeat' (first|((first|apply qwd|apply qa1|apply qh1|apply qg1 rfl|apply qcd);(try intro K hk);focus (simp only [lvY46_8,mkT,go_sem,Nat.reduceEqDiff,↓reduceIte,exl,ex_unit9,true_and,hp,htx,hbal,encTks_len,encTks_iff,Bool.not_true,Bool.not_false];first|exact rfl|((repeat refine ai ?_);intros;apply hk;clear hk K)))|apply qw1|refine qwc lvY46_8 ?_|apply qt1|apply qt2|apply qt5|apply qw3|apply qw4|apply qj1|apply qj2|apply qj3|apply qj4|apply qu1|(refine qj6 ?_ ?_<;>intro hc<;>(try simp only [hc])<;>(try simp only [decide_eq_true_eq,decide_eq_false_iff_not] at hc)<;>(try (exfalso;omega))))
       all_goals first
        | (((first|refine fin_ret ?_|refine fin_end ?_);simp only [go_sem,↓upd_def,↓reduceIte])
           exact hK)
        | skip
     | true =>
       have hes:=esc_safe htx hpl
       repeat' (first|((first|apply qwd|apply qa1|apply qh1|apply qg1 rfl|apply qcd);(try intro K hk);focus (simp only [lvY46_8,mkT,go_sem,Nat.reduceEqDiff,↓reduceIte,exl,ex_unit9,true_and,hp,htx,hes,hbal,encTks_len,encTks_iff,Bool.not_true];first|exact rfl|((repeat refine ai ?_);intros;apply hk;clear hk K)))|apply qw1|refine qwc lvY46_8 ?_|apply qt1|apply qt2|apply qt5|apply qw3|apply qw4|apply qj1|apply qj2|apply qj4|apply qu1|(refine qj6 ?_ ?_<;>intro hc<;>(try simp only [hc])<;>(try simp only [decide_eq_true_eq,decide_eq_false_iff_not] at hc)<;>(try (exfalso;omega))))
       all_goals first
        | (((first|refine fin_ret ?_|refine fin_end ?_);simp only [go_sem,↓upd_def,↓reduceIte])
           exact hK)
        | skip
set_option maxHeartbeats 8000000 in
theorem FnCleanMarkup_pure:PureOk Try.prog 11 (rel (α:=Bs) (fun x=>[.seq (x.map bc)]) (fun x=>x.length≤9223372036854775807) (fun _=> .bool true)):=by
 refine pure_relA 1 (tabA_cons drwCM (tabA_nil (Γof_ok (tab_cons cm_i (tab_cons cm_s (tab_cons ms_i (tab_cons alive9 tab_nil))))))) (tab_cons cm_i (tab_cons cm_s (tab_cons ms_i (tab_cons alive9 tab_nil)))) mixed [.tmp 2] Try.func11 rfl rfl (by kernel_rfl) (by kernel_rfl) (fun _=>rfl) (by kernel_rfl) ?_
 rintro l0 K hl hK
 have hba:=bc_all l0
 unfold entry
 repeat' (first|((first|apply qwd|apply qa1|apply qh1|apply qg1 rfl|apply qcd);(try intro K hk);focus (simp only [lvY46_11,mkT,go_sem,Nat.reduceEqDiff,↓reduceIte,reduceCtorEq,exl,ex_unit9,true_and,Bool.not_true];first|exact rfl|((repeat refine ai ?_);intros;apply hk;clear hk K)))|apply qw1|refine qwc lvY46_11 ?_|apply qt1|apply qw2|apply qt3|apply qw4|apply qj1|apply qj2|apply qj4|apply qu1|(refine qj6 ?_ ?_<;>intro hc<;>(try simp only [hc])<;>(try simp only [decide_eq_true_eq,decide_eq_false_iff_not,Bool.not_eq_true',Bool.not_eq_false'] at hc)<;>(try (exfalso;omega))))
 all_goals first
  | (((first|refine fin_ret ?_|refine fin_end ?_);simp only [go_sem,↓upd_def,↓reduceIte])
     exact hK)
  | exact absurd (cmD_no (by assumption)) (by assumption)
  | skip
 rename Bs=>s
 obtain ⟨x,hcm⟩:=Option.isSome_iff_exists.1 hc
 obtain ⟨h1,h2⟩:=clean_law hcm
 have hxl:=cm_len hcm
 repeat' (first|((first|apply qwd|apply qa1|apply qh1|apply qg1 rfl);(try intro K hk);focus (simp only [lvY46_11,mkT,go_sem,Nat.reduceEqDiff,↓reduceIte,exl,true_and,hcm,h1,h2,Option.getD_some,Option.isSome_some,decide_true];first|exact rfl|((repeat refine ai ?_);intros;apply hk;clear hk K)))|apply qw1|refine qwc lvY46_11 ?_|apply qt1|apply qw4|apply qj1|apply qu1)
 all_goals first
  | (((first|refine fin_ret ?_|refine fin_end ?_);simp only [go_sem,↓upd_def,↓reduceIte])
     exact hK)
  | skip
end Go.Proofs.Ytnbjogilidfkdaa
