/- PairAllowed. -/
import Derived.Test.YtnbjogilidfkdaaGreatUXC

namespace Go.Proofs.YtnbjogilidfkdaaGreat
attribute [local irreducible] awp arun acalm FinP Fin AX.then AX.inBlock Again aG gsel amix amixN amixC aop aopc aopd cutK
attribute [local go_sem] aBSliceD aSlice aSliceC boundOf aMk aCall aCallC aLenL aLen aPick_t aPick_f aNil aAlloc aBox aBuild bldPV aBSlice bsPV aApp newsOf destOf drp aConvX aConv aConvInt aLoad cellsAt aStore cellsPV setAt aFld aField aIdx aIndex aUn aBin' aBin aMax aExtract pvOf PV.isCell nmbL PV.nmb List.map_cons List.map_nil List.all_cons List.all_nil Bool.and_true Bool.true_and if_true if_false List.getD_cons_zero List.getD_cons_succ List.getD_nil Option.isSome_some true_and and_true and_self eq_self true_or or_true List.drop_zero List.drop_succ_cons List.drop_nil List.take_zero List.take_succ_cons List.take_nil List.length_cons List.length_nil List.length_map Option.getD_some Option.getD_none List.nil_append List.cons_append List.append_nil Option.some.injEq exists_eq_left' List.getElem?_cons_zero List.getElem?_cons_succ Int.toNat_natCast Int.natCast_inj toNat_succ Nat.zero_add res res1 resC owns owns1 ownsC List.flatMap_cons List.flatMap_nil List.flatten_cons List.flatten_nil List.mem_cons List.not_mem_nil or_false false_or forall_eq forall_eq_or_imp isFro frz frz1 pureC tabA isBld List.cons.injEq PV.seq.injEq PV.int.injEq PV.str.injEq PV.bool.injEq PV.agg.injEq inR tab Γof aRes packR Option.map_some Option.map_none rel Prod.exists exists_and_left exists_eq_left and_assoc beq_self_eq_true Bool.not_true Bool.not_false decide_true decide_false List.set_cons_zero List.set_cons_succ rst_nil rst_cons
attribute [local go_sem ↓] evT upd_def aop aopc aopd
set_option maxRecDepth 100000
set_option linter.unusedVariables false
set_option linter.unusedSimpArgs false
open Go.RowKit
def lvYP_87:Nat→List Nat
 | 0=>[0,3]
 | 1=>[0,3,5]
 | 2=>[4]
 | 3=>[0,3,9]
 | 4=>[3,9]
 | 5=>[4]
 | 6=>[4]
 | _=>[]
def lvYP_118:Nat→List Nat
 | 0=>[0,3]
 | 1=>[0,3,6]
 | 2=>[0,3,6,7]
 | 3=>[4]
 | 4=>[0,3,16]
 | 5=>[4]
 | 6=>[4]
 | _=>[]
--LV=YP
def titN:Bs:=[116,105,116,108,101]
def pairB (t n v:Bs):Bool:=if n=titN then true else if n=[104,114,101,102]∧t=[97]∨n=[115,114,99]∧t=[105,109,103] then safeB v else false
@[go_sem] def prC:PC:=rel (α:=Bs×(Bs×Bs)) (fun x=>[.str x.1,.agg [.str x.2.1,.str x.2.2]]) (fun x=>x.1.length≤1048576∧x.2.1.length≤1048576∧x.2.2.length≤1048576) (fun x=> .bool (pairB x.1 x.2.1 x.2.2))
theorem ex_3 {p:Bs×(Bs×Bs)→Prop}:(∃ x,p x)↔ ∃ a b c,p (a,(b,c)):=⟨fun ⟨(a,(b,c)),h⟩=>⟨a,b,c,h⟩,fun ⟨a,b,c,h⟩=>⟨_,h⟩⟩
set_option maxHeartbeats 4000000 in
theorem pr_i:PureOk Tryz.prog 87 prC:=by
 refine pure_rel 2 (tab_cons safe_i tab_nil) mixed [.tmp 4] Tryz.func87 rfl rfl (by kernel_rfl) (by kernel_rfl) (fun _=>rfl) (by kernel_rfl) ?_
 rintro ⟨t,n,v⟩ K ⟨h1,h2,h3⟩ hK
 dsimp only at *
 unfold pairB at hK
 unfold entry
 repeat' (first|((first|apply qwd|apply qa1|apply qa2|apply qa3|apply qh1|apply qh2|apply qg1 rfl|apply qcd);(try intro K hk);focus (simp only [lvYP_87,mkT,go_sem,Nat.reduceEqDiff,Nat.reduceAdd,Nat.reduceLeDiff,Nat.reduceLT,Nat.reduceSub,Int.reduceToNat,↓reduceIte,reduceCtorEq];first|exact rfl|((repeat refine ai ?_);intros;apply hk;clear hk K)))|apply qw8|apply qw1|refine qwc lvYP_87 ?_|apply qt1|apply qw5|apply qw2|apply qw9|apply qt2|apply qt3|apply qt4|apply qt5|apply qt6|apply qw3|apply qw4|apply qj1|apply qj2|apply qj3|apply qj4|apply qj5|apply qu1|apply qu2|(refine qj6 ?_ ?_<;>intro hc<;>(try simp only [hc])<;>(try simp only [decide_eq_true_eq,decide_eq_false_iff_not,Bool.not_eq_true',Bool.not_eq_false',Bool.not_eq_true,reduceCtorEq] at hc)<;>(try (exfalso;omega)))|(refine qt7 ?_ ?_;focus decide)|(refine qw7 ?_ ?_ ?_;(focus (decide +kernel));(focus (decide +kernel))))
 all_goals
  ((first|refine fin_ret ?_|refine fin_end ?_);simp only [go_sem,↓upd_def,Nat.reduceEqDiff,Nat.reduceAdd,↓reduceIte,reduceCtorEq])
  refine K_bool hK ?_
  first|(simp [titN, *];done)|(exfalso;simp_all;done)|(simp_all [titN];done)
set_option maxHeartbeats 4000000 in
theorem pr_s:PureOk Tryz.prog 118 prC:=by
 refine pure_rel 2 (tab_cons safe_s tab_nil) mixed [.tmp 4] Tryz.func118 rfl rfl (by kernel_rfl) (by kernel_rfl) (fun _=>rfl) (by kernel_rfl) ?_
 rintro ⟨t,n,v⟩ K ⟨h1,h2,h3⟩ hK
 dsimp only at *
 unfold pairB at hK
 unfold entry
 repeat' (first|((first|apply qwd|apply qa1|apply qa2|apply qa3|apply qh1|apply qh2|apply qg1 rfl|apply qcd);(try intro K hk);focus (simp only [lvYP_118,mkT,go_sem,Nat.reduceEqDiff,Nat.reduceAdd,Nat.reduceLeDiff,Nat.reduceLT,Nat.reduceSub,Int.reduceToNat,↓reduceIte,reduceCtorEq];first|exact rfl|((repeat refine ai ?_);intros;apply hk;clear hk K)))|apply qw8|apply qw1|refine qwc lvYP_118 ?_|apply qt1|apply qw5|apply qw2|apply qw9|apply qt2|apply qt3|apply qt4|apply qt5|apply qt6|apply qw3|apply qw4|apply qj1|apply qj2|apply qj3|apply qj4|apply qj5|apply qu1|apply qu2|(refine qj6 ?_ ?_<;>intro hc<;>(try simp only [hc])<;>(try simp only [decide_eq_true_eq,decide_eq_false_iff_not,Bool.not_eq_true',Bool.not_eq_false',Bool.not_eq_true,reduceCtorEq] at hc)<;>(try (exfalso;omega)))|(refine qt7 ?_ ?_;focus decide)|(refine qw7 ?_ ?_ ?_;(focus (decide +kernel));(focus (decide +kernel))))
 all_goals
  ((first|refine fin_ret ?_|refine fin_end ?_);simp only [go_sem,↓upd_def,Nat.reduceEqDiff,Nat.reduceAdd,↓reduceIte,reduceCtorEq])
  refine K_bool hK ?_
  first|(simp [titN, *];done)|(exfalso;simp_all;done)|(simp_all [titN];done)
end Go.Proofs.YtnbjogilidfkdaaGreat
