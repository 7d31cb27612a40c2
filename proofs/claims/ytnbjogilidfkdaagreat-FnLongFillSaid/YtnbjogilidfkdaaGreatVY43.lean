/- The law's walk over drawn parts and data: what is filled in is divided into tokens. -/
import Derived.Test.YtnbjogilidfkdaaGreatVY23
import Derived.Test.YtnbjogilidfkdaaGreatVX53
import Derived.Test.YtnbjogilidfkdaaGreatVK24

namespace Go.Proofs.YtnbjogilidfkdaaGreat
attribute [local irreducible] awp arun acalm FinP Fin AX.then AX.inBlock Again aG gsel amix amixN amixC aop aopc aopd cutK
attribute [local go_sem] aBSliceD aSlice aSliceC boundOf aMk aCall aCallC aLenL aLen aPick_t aPick_f aNil aAlloc aBox aBuild bldPV aBSlice bsPV aApp newsOf destOf drp aConvX aConv aConvInt aLoad cellsAt aStore cellsPV setAt aFld aField aIdx aIndex aUn aBin' aBin aMax aExtract pvOf PV.isCell nmbL PV.nmb List.map_cons List.map_nil List.all_cons List.all_nil Bool.and_true Bool.true_and if_true if_false List.getD_cons_zero List.getD_cons_succ List.getD_nil Option.isSome_some true_and and_true and_self eq_self true_or or_true List.drop_zero List.drop_succ_cons List.drop_nil List.take_zero List.take_succ_cons List.take_nil List.length_cons List.length_nil List.length_map Option.getD_some Option.getD_none List.nil_append List.cons_append List.append_nil Option.some.injEq exists_eq_left' List.getElem?_cons_zero List.getElem?_cons_succ Int.toNat_natCast Int.natCast_inj toNat_succ Nat.zero_add res res1 resC owns owns1 ownsC List.flatMap_cons List.flatMap_nil List.flatten_cons List.flatten_nil List.mem_cons List.not_mem_nil or_false false_or forall_eq forall_eq_or_imp isFro frz frz1 pureC tabA isBld List.cons.injEq PV.seq.injEq PV.int.injEq PV.str.injEq PV.bool.injEq PV.agg.injEq inR tab Γof aRes packR Option.map_some Option.map_none rel Prod.exists exists_and_left exists_eq_left and_assoc beq_self_eq_true Bool.not_true Bool.not_false decide_true decide_false List.set_cons_zero List.set_cons_succ rst_nil rst_cons
attribute [local go_sem ↓] evT upd_def aop aopc aopd
set_option maxRecDepth 100000
set_option linter.unusedVariables false
set_option linter.unusedSimpArgs false
open Go.RowKit
def lvY43_3:Nat→List Nat
 | 0=>[0]
 | 1=>[0,13]
 | 2=>[2]
 | 3=>[3,4]
 | 4=>[3,4,5,6]
 | 5=>[5,6,7,8]
 | 6=>[5,6,38]
 | 7=>[2]
 | 8=>[5,6,10]
 | 9=>[2]
 | _=>[]
--LV=Y43
set_option maxHeartbeats 8000000 in
theorem FnLongFill_pure:PureOk Tryz.prog 3 (rel (α:=Bs) (fun x=>[.seq (x.map bc)]) (fun x=>x.length≤9223372036854775807) (fun _=> .bool true)):=by
 refine pure_relA 1 (tabA_cons drwFS (tabA_nil (Γof_ok (tab_cons fs_i (tab_cons fs_s (tab_cons tok_i (tab_cons text_i (tab_cons alive9 tab_nil)))))))) (tab_cons fs_i (tab_cons fs_s (tab_cons tok_i (tab_cons text_i (tab_cons alive9 tab_nil))))) mixed [.tmp 2] Tryz.func3 rfl rfl (by kernel_rfl) (by kernel_rfl) (fun _=>rfl) (by kernel_rfl) ?_
 rintro l0 K hl hK
 have hba:=bc_all l0
 unfold entry
 repeat' (first|((first|apply qwd|apply qa1|apply qcd);(try intro K hk);focus (simp only [lvY43_3,mkT,go_sem,Nat.reduceEqDiff,↓reduceIte,reduceCtorEq,exl,true_and,encPs_iff,encFs_iff,gdX];first|exact rfl|((repeat refine ai ?_);intros;apply hk;clear hk K)))|apply qw1|refine qwc lvY43_3 ?_|apply qt1|apply qw2|apply qt3|apply qw4|apply qj1|apply qj4|(refine qj6 ?_ ?_<;>intro hc<;>(try simp only [hc])<;>(try simp only [decide_eq_true_eq,decide_eq_false_iff_not] at hc)<;>(try (exfalso;omega))))
 · ((first|refine fin_ret ?_|refine fin_end ?_);simp only [go_sem,↓upd_def,↓reduceIte])
   exact hK
 rename (List PartD×List FieldD)=>x9
 obtain ⟨xs,d⟩:=x9
 rename _∧_∧_=>hgx
 obtain ⟨b1,b2,b3⟩:=hgx
 dsimp only at b1 b2 b3
 have hok:=bdFs_ok b3
 cases hf:fillM xs d with
 | none =>
   repeat' (first|((first|apply qwd|apply qa1|apply qh1|apply qg1 rfl|apply qcd);(try intro K hk);focus (simp only [lvY43_3,mkT,go_sem,Nat.reduceEqDiff,Nat.reduceLeDiff,↓reduceIte,exl,ex_unit9,true_and,encPs_iff,encFs_iff,hf,Option.getD_none,Option.isSome_none,decide_true,Bool.not_false,Bool.not_true];first|exact rfl|((repeat refine ai ?_);intros;apply hk;clear hk K)))|apply qw1|refine qwc lvY43_3 ?_|apply qt1|apply qw2|apply qw4|apply qj1|apply qj2|apply qj3|apply qj4|apply qj5|apply qu1)
   all_goals first
    | (((first|refine fin_ret ?_|refine fin_end ?_);simp only [go_sem,↓upd_def,↓reduceIte])
       exact hK)
    | skip
 | some o =>
   have hs:=fill_state hf
   have hle:=fillM_len b1 hf
   have hlt:=fun h1 h2=>long_tok (t:=o) h1 h2 hs
   cases ht:textB o with
   | false =>
     have hn:=tokM_bad ht
     repeat' (first|((first|apply qwd|apply qa1|apply qh1|apply qg1 rfl|apply qcd);(try intro K hk);focus (simp only [lvY43_3,mkT,go_sem,Nat.reduceEqDiff,↓reduceIte,exl,true_and,encPs_iff,encFs_iff,hf,ht,hn,Option.getD_some,Option.isSome_some,Option.getD_none,Option.isSome_none,decide_true,Bool.not_false,Bool.not_true];first|exact rfl|((repeat refine ai ?_);intros;apply hk;clear hk K)))|apply qw1|refine qwc lvY43_3 ?_|apply qt1|apply qw2|apply qw4|apply qj1|apply qj2|apply qj3|apply qj4|apply qu1)
     all_goals first
      | (((first|refine fin_ret ?_|refine fin_end ?_);simp only [go_sem,↓upd_def,↓reduceIte])
         exact hK)
      | skip
   | true =>
     by_cases h100:o.length≤100
     · have hn:=hlt ht h100
       repeat' (first|((first|apply qwd|apply qa1|apply qh1|apply qg1 rfl|apply qcd);(try intro K hk);focus (simp only [lvY43_3,mkT,go_sem,Nat.reduceEqDiff,↓reduceIte,exl,true_and,encPs_iff,encFs_iff,hf,hn,Option.getD_some,Option.isSome_some,decide_true,Bool.not_true];first|exact rfl|((repeat refine ai ?_);intros;apply hk;clear hk K)))|apply qw1|refine qwc lvY43_3 ?_|apply qt1|apply qw2|apply qw4|apply qj1|apply qj2|apply qj3|apply qj4|apply qu1)
       all_goals first
        | (((first|refine fin_ret ?_|refine fin_end ?_);simp only [go_sem,↓upd_def,↓reduceIte])
           exact hK)
        | skip
     · have hb9:decide (100<(o.length:Int))=true:=decide_eq_true (by omega)
       repeat' (first|((first|apply qwd|apply qa1|apply qh1|apply qg1 rfl|apply qcd);(try intro K hk);focus (simp only [lvY43_3,mkT,go_sem,Nat.reduceEqDiff,↓reduceIte,hb9,exl,true_and,encPs_iff,encFs_iff,hf,ht,Option.getD_some,Option.isSome_some,decide_true,Bool.not_true];first|exact rfl|((repeat refine ai ?_);intros;apply hk;clear hk K)))|apply qw1|refine qwc lvY43_3 ?_|apply qt1|apply qw2|apply qw4|apply qj1|apply qj2|apply qj3|apply qj4|apply qu1|(refine qj6 ?_ ?_<;>intro hc<;>(try simp only [hc])<;>(try simp only [decide_eq_true_eq,decide_eq_false_iff_not,Bool.not_eq_true',Bool.not_eq_false',Bool.not_eq_true,reduceCtorEq] at hc)<;>(try (exfalso;omega))))
       all_goals first
        | (((first|refine fin_ret ?_|refine fin_end ?_);simp only [go_sem,↓upd_def,↓reduceIte])
           exact hK)
        | skip
end Go.Proofs.YtnbjogilidfkdaaGreat
