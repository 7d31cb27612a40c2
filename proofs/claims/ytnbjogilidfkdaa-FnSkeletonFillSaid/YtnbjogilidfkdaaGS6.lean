/- Contracts: places of holes, states behind them. -/
import Derived.Test.YtnbjogilidfkdaaGS0
import Derived.Test.YtnbjogilidfkdaaGX1

namespace Go.Proofs.Ytnbjogilidfkdaa
attribute [local irreducible] awp arun acalm FinP Fin AX.then AX.inBlock Again aG gsel amix amixN amixC aop aopc aopd cutK
attribute [local go_sem] aBSliceD aSlice aSliceC boundOf aMk aCall aCallC aLenL aLen aPick_t aPick_f aNil aAlloc aBox aBuild bldPV aBSlice bsPV aApp newsOf destOf drp aConvX aConv aConvInt aLoad cellsAt aStore cellsPV setAt aFld aField aIdx aIndex aUn aBin' aBin aMax aExtract pvOf PV.isCell nmbL PV.nmb List.map_cons List.map_nil List.all_cons List.all_nil Bool.and_true Bool.true_and if_true if_false List.getD_cons_zero List.getD_cons_succ List.getD_nil Option.isSome_some true_and and_true and_self eq_self true_or or_true List.drop_zero List.drop_succ_cons List.drop_nil List.take_zero List.take_succ_cons List.take_nil List.length_cons List.length_nil List.length_map Option.getD_some Option.getD_none List.nil_append List.cons_append List.append_nil Option.some.injEq exists_eq_left' List.getElem?_cons_zero List.getElem?_cons_succ Int.toNat_natCast Int.natCast_inj toNat_succ Nat.zero_add res res1 resC owns owns1 ownsC List.flatMap_cons List.flatMap_nil List.flatten_cons List.flatten_nil List.mem_cons List.not_mem_nil or_false false_or forall_eq forall_eq_or_imp isFro frz frz1 pureC tabA isBld List.cons.injEq PV.seq.injEq PV.int.injEq PV.str.injEq PV.bool.injEq PV.agg.injEq inR tab Γof aRes packR Option.map_some Option.map_none rel Prod.exists exists_and_left exists_eq_left and_assoc beq_self_eq_true Bool.not_true Bool.not_false decide_true decide_false List.set_cons_zero List.set_cons_succ rst_nil rst_cons
attribute [local go_sem ↓] evT upd_def aop aopc aopd
set_option maxRecDepth 100000
set_option linter.unusedVariables false
set_option linter.unusedSimpArgs false
open Go.RowKit
def lvS6_69:Nat→List Nat
 | 0=>[1]
 | 1=>[1,5]
 | 2=>[2]
 | 3=>[1,7]
 | 4=>[1,7,8]
 | 5=>[2]
 | 6=>[1,7,10]
 | 7=>[2]
 | 8=>[1,7,12]
 | 9=>[1,12]
 | 10=>[1,15]
 | 11=>[2]
 | 12=>[1,24]
 | 13=>[2]
 | 14=>[29]
 | 15=>[2]
 | 16=>[2]
 | 17=>[2]
 | _=>[]
def lvS6_104:Nat→List Nat
 | 0=>[1,2]
 | 1=>[1,2,5]
 | 2=>[2]
 | 3=>[1,2,14]
 | 4=>[1,2]
 | 5=>[2]
 | _=>[]
--LV=S6
theorem adr_i:PureOk Try.prog 110 (strC addrN):=by
 refine pure_rel 1 tab_nil mixed [.tmp 2] Try.func110 rfl rfl (by kernel_rfl) (by kernel_rfl) (fun _=>rfl) (by kernel_rfl) ?_
 rintro s K hl hK
 unfold entry
 repeat' (first|((first|apply qa1|apply qh1|apply qg1 rfl);(try intro K hk);focus (simp only [go_sem,Nat.reduceEqDiff,↓reduceIte,reduceCtorEq];first|exact rfl|((repeat refine ai ?_);intros;apply hk;clear hk K)))|apply qw8|apply qw1|apply qw6|apply qt1|apply qw4|apply qj2|apply qj3|apply qu1|(refine qj6 ?_ ?_<;>intro hc<;>(try simp only [hc])<;>(try simp only [decide_eq_true_eq,decide_eq_false_iff_not] at hc)<;>(try (exfalso;omega))))
 all_goals
  ((first|refine fin_ret ?_|refine fin_end ?_);simp only [go_sem,↓upd_def,↓reduceIte])
  refine K_bool hK ?_
  clear hK
  unfold addrN
  simp [*]
theorem placeM_eq (s:St):placeM s=if stV s=false then 0 else if s.mode=0 then 1 else if s.mode=12 then 5 else if s.mode=6∨s.mode=7 then
 (if List.isPrefixOf [111,110] s.attr=true∨s.attr=styleN then 0 else if addrN s.attr=false then 2 else if s.seen=true then 4 else 3) else 0:=rfl
@[go_sem] def plC:PC:=stC fun s=> .int .i64 (placeM s)
set_option maxHeartbeats 8000000 in
theorem place_i:PureOk Try.prog 69 plC:=by
 refine pure_rel 1 (tab_cons sv_i (tab_cons pre_any (tab_cons adr_i tab_nil))) mixed [.tmp 2] Try.func69 rfl rfl (by kernel_rfl) (by kernel_rfl) (fun _=>rfl) (by kernel_rfl) ?_
 rintro ⟨m,t,a,b⟩ K hok hK
 rw [placeM_eq] at hK
 obtain ⟨hl1,hl2⟩:=hok
 dsimp only at *
 have hok:okS ⟨m,t,a,b⟩:=⟨hl1,hl2⟩
 cases hv:stV ⟨m,t,a,b⟩<;>rw [hv] at hK<;>unfold entry
 · repeat' (first|((first|apply qwd|apply qa1|apply qcd);(try intro K hk);focus (simp only [lvS6_69,mkT,go_sem,Nat.reduceEqDiff,Nat.reduceAdd,Nat.reduceLeDiff,↓reduceIte,encS_eq,ex_St,hv,Bool.not_false];first|exact rfl|((repeat refine ai ?_);intros;apply hk;clear hk K)))|apply qw1|refine qwc lvS6_69 ?_|apply qt1|apply qt3|apply qw4|apply qj1)
   ((first|refine fin_ret ?_|refine fin_end ?_);simp only [go_sem,↓upd_def,↓reduceIte])
   exact hK
 repeat' (first|((first|apply qwd|apply qa1|apply qh1|apply qg1 rfl|apply qcd);(try intro K hk);focus (simp only [lvS6_69,mkT,go_sem,Nat.reduceEqDiff,Nat.reduceAdd,Nat.reduceLeDiff,↓reduceIte,encS_eq,ex_St,hv,Bool.not_true];first|exact rfl|((repeat refine ai ?_);intros;apply hk;clear hk K)))|apply qw1|refine qwc lvS6_69 ?_|apply qt1|apply qw5|apply qw2|apply qt3|apply qt4|apply qt6|apply qw4|apply qj1|apply qj2|apply qj3|apply qj4|apply qu1|(refine qj6 ?_ ?_<;>intro hc<;>(try simp only [hc])<;>(try simp only [decide_eq_true_eq,decide_eq_false_iff_not,Bool.not_eq_true',Bool.not_eq_false'] at hc)<;>(try (exfalso;omega))))
 all_goals
  ((first|refine fin_ret ?_|refine fin_end ?_);simp only [go_sem,↓upd_def,↓reduceIte])
  refine K_int hK ?_
  clear hK
  have hst:styleN=[115,116,121,108,101]:=rfl
  (repeat' split)<;>first|rfl|(exfalso;omega)|(exfalso;simp_all;done)|(exfalso;simp_all;omega)
@[go_sem] def behC:PC:=stC fun s=> .agg (encS (behindM s))
theorem behindM_eq (s:St):behindM s=if placeM s=0 then bad else if s.mode=6∨s.mode=7 then ⟨s.mode,s.tag,s.attr,true⟩ else s:=rfl
set_option maxHeartbeats 8000000 in
theorem beh_i:PureOk Try.prog 104 behC:=by
 refine pure_rel 1 (tab_cons place_i tab_nil) mixed [.cell 2 82] Try.func104 rfl rfl (by kernel_rfl) (by kernel_rfl) (fun _=>rfl) (by kernel_rfl) ?_
 rintro ⟨m,t,a,b⟩ K hok hK
 rw [behindM_eq] at hK
 unfold entry
 repeat' (first|((first|apply qwd|apply qa1|apply qa2|apply qh1|apply qg1 rfl|apply qcd);(try intro K hk);focus (simp only [lvS6_104,mkT,go_sem,Nat.reduceEqDiff,Nat.reduceAdd,Nat.reduceLeDiff,Nat.reduceLT,↓reduceIte,reduceCtorEq,encS_eq,ex_St];first|exact rfl|((repeat refine ai ?_);intros;apply hk;clear hk K)))|apply qw1|refine qwc lvS6_104 ?_|apply qt1|apply qw2|apply qt3|apply qw4|apply qj1|apply qj2|apply qj3|apply qj4|apply qu1|(refine qj6 ?_ ?_<;>intro hc<;>(try simp only [hc])<;>(try simp only [decide_eq_true_eq,decide_eq_false_iff_not] at hc)<;>(try (exfalso;omega))))
 all_goals
  ((first|refine fin_ret ?_|refine fin_end ?_);simp only [go_sem,↓upd_def,Nat.reduceAdd,↓reduceIte])
  refine ⟨by omega,K_eq hK ?_⟩
  clear hK
  (repeat' split)<;>first|rfl|(exfalso;omega)|(exfalso;simp_all;done)|(exfalso;simp_all;omega)
end Go.Proofs.Ytnbjogilidfkdaa
