/- The law's walk: skeletons of filled templates. -/
import Derived.Test.YtnbjogilidfkdaaGY23
import Derived.Test.YtnbjogilidfkdaaGX53
import Derived.Test.YtnbjogilidfkdaaGK3
import Derived.Test.YtnbjogilidfkdaaGY18
import Derived.Test.YtnbjogilidfkdaaGX69
import Derived.Test.YtnbjogilidfkdaaGR11

namespace Go.Proofs.Ytnbjogilidfkdaa
attribute [local irreducible] awp arun acalm FinP Fin AX.then AX.inBlock Again aG gsel amix amixN amixC aop aopc aopd cutK
attribute [local go_sem] aBSliceD aSlice aSliceC boundOf aMk aCall aCallC aLenL aLen aPick_t aPick_f aNil aAlloc aBox aBuild bldPV aBSlice bsPV aApp newsOf destOf drp aConvX aConv aConvInt aLoad cellsAt aStore cellsPV setAt aFld aField aIdx aIndex aUn aBin' aBin aMax aExtract pvOf PV.isCell nmbL PV.nmb List.map_cons List.map_nil List.all_cons List.all_nil Bool.and_true Bool.true_and if_true if_false List.getD_cons_zero List.getD_cons_succ List.getD_nil Option.isSome_some true_and and_true and_self eq_self true_or or_true List.drop_zero List.drop_succ_cons List.drop_nil List.take_zero List.take_succ_cons List.take_nil List.length_cons List.length_nil List.length_map Option.getD_some Option.getD_none List.nil_append List.cons_append List.append_nil Option.some.injEq exists_eq_left' List.getElem?_cons_zero List.getElem?_cons_succ Int.toNat_natCast Int.natCast_inj toNat_succ Nat.zero_add res res1 resC owns owns1 ownsC List.flatMap_cons List.flatMap_nil List.flatten_cons List.flatten_nil List.mem_cons List.not_mem_nil or_false false_or forall_eq forall_eq_or_imp isFro frz frz1 pureC tabA isBld List.cons.injEq PV.seq.injEq PV.int.injEq PV.str.injEq PV.bool.injEq PV.agg.injEq inR tab Γof aRes packR Option.map_some Option.map_none rel Prod.exists exists_and_left exists_eq_left and_assoc beq_self_eq_true Bool.not_true Bool.not_false decide_true decide_false List.set_cons_zero List.set_cons_succ rst_nil rst_cons
attribute [local go_sem ↓] evT upd_def aop aopc aopd
set_option maxRecDepth 100000
set_option linter.unusedVariables false
set_option linter.unusedSimpArgs false
open Go.RowKit
def lvY47_10:Nat→List Nat
 | 0=>[0,1]
 | 1=>[0,1,24]
 | 2=>[4]
 | 3=>[1,5]
 | 4=>[5,7,8]
 | 5=>[5,7,8,41]
 | 6=>[4]
 | 7=>[5,7,8,9,10]
 | 8=>[7,8,9,10,11,12]
 | 9=>[7,8,10,11,12,13,14]
 | 10=>[7,8,10,12,13,14,15,16]
 | 11=>[13,15,83]
 | 12=>[4]
 | 13=>[4]
 | _=>[]
def lvY47_39:Nat→List Nat
 | 0=>[0,1]
 | 1=>[0,1,10]
 | 2=>[4]
 | 3=>[0,1,5]
 | 4=>[0,1,5,14]
 | 5=>[0,1,5]
 | 6=>[0,1,5,25]
 | 7=>[4]
 | 8=>[4]
 | _=>[]
--LV=Y47
@[go_sem] def stxC:PC:=rel (α:=List Bs) (fun l=>[.seq (strs l),.seq (strs l)]) (fun l=>l.length≤1048576) (fun _=> .bool true)
theorem stx_47:PureOk Try.prog 39 stxC:=by
 refine pure_rel 2 tab_nil mixed [.tmp 4] Try.func39 rfl rfl (by kernel_rfl) (by kernel_rfl) (fun _=>rfl) (by kernel_rfl) ?_
 rintro l K hl hK
 have hsl:=strs_length l
 unfold entry
 repeat' (first|((first|apply qwd|apply qa1|apply qcd);(try intro K hk);focus (simp only [lvY47_39,mkT,go_sem,Nat.reduceEqDiff,↓reduceIte,reduceCtorEq,hsl];first|exact rfl|((repeat refine ai ?_);intros;apply hk;clear hk K)))|apply qw1|refine qwc lvY47_39 ?_|apply qt1|apply qw5|apply qw2|apply qj4)
 refine s_loop (ι:=Nat) (fun k=>[(0,.seq (strs l)),(1,.seq (strs l)),(5,.int .i64 k)]) (fun _=>[]) 0 (fun k=>k≤l.length) (fun k=>l.length - k) 0 (by omega) (Nat.zero_le _) ?_ ?_
 · simp [fits,fitsT,fitsM,upd_def,PV.nmb]
 intro k hk
 simp only [mkS,mkT,mkM]
 by_cases hkl:k<l.length
 · obtain ⟨t,ht⟩:=get_some (xs:=l) (k:=k) hkl
   have hg:(strs l)[k]?=some [.str t]:=by rw [strK_get,ht];rfl
   have hkn:((k:Nat):Int).toNat=k:=Int.toNat_natCast k
   repeat' (first|((first|apply qwd|apply qa1|apply qa3|apply qcd);(try intro K hk);focus (simp only [lvY47_39,mkT,go_sem,Nat.reduceEqDiff,↓reduceIte,reduceCtorEq,hsl,hg,hkn,decide_true,Bool.not_true];first|exact rfl|((repeat refine ai ?_);intros;apply hk;clear hk K)))|apply qw1|refine qwc lvY47_39 ?_|apply qt1|apply qw5|apply qw2|apply qw9|apply qt4|apply qj1|apply qj4|(refine qj6 ?_ ?_<;>intro hc<;>(try simp only [hc])<;>(try simp only [decide_eq_true_eq,decide_eq_false_iff_not] at hc)<;>(try (exfalso;omega)))|(refine qw7 ?_ ?_ ?_;(focus (decide +kernel));(focus (decide +kernel))))
   refine s_again (k+1) ?_ ?_ ?_<;>(first|omega|(dsimp only;omega)|skip)
   all_goals (simp [fits,fitsT,fitsM,upd_def,PV.nmb];done)
 · obtain rfl:k=l.length:=by omega
   repeat' (first|((first|apply qwd|apply qa1|apply qcd);(try intro K hk);focus (simp only [lvY47_39,mkT,go_sem,Nat.reduceEqDiff,↓reduceIte,reduceCtorEq,hsl];first|exact rfl|((repeat refine ai ?_);intros;apply hk;clear hk K)))|apply qw1|refine qwc lvY47_39 ?_|apply qt1|apply qt2|apply qt5|apply qw3|apply qw4|apply qj4|(refine qj6 ?_ ?_<;>intro hc<;>(try simp only [hc])<;>(try simp only [decide_eq_true_eq,decide_eq_false_iff_not] at hc)<;>(try (exfalso;omega))))
   ((first|refine fin_ret ?_|refine fin_end ?_);simp only [go_sem,↓upd_def,↓reduceIte])
   exact hK
theorem flD_len {xs:List PartD} {data:List FieldD} (hw:wtL xs≤6000):((fillM xs data).getD []).length≤1000000000:=by
 cases h:fillM xs data with
 | none=>exact Nat.zero_le _
 | some o=>exact fillM_len hw h
set_option maxHeartbeats 16000000 in
theorem FnSkeletonFill_pure:PureOk Try.prog 10 (rel (α:=Bs×Bs) (fun x=>[.seq (x.1.map bc),.seq (x.2.map bc)]) (fun x=>x.1.length≤9223372036854775807∧x.2.length≤9223372036854775807) (fun _=> .bool true)):=by
 refine pure_relA 2 (tabA_cons drwFS (tabA_cons drwSS (tabA_nil (Γof_ok (tab_cons ss_i (tab_cons ss_s (tab_cons fs_i (tab_cons tok_i (tab_cons sk_i (tab_cons stx_47 (tab_cons alive9 tab_nil))))))))))) (tab_cons ss_i (tab_cons ss_s (tab_cons fs_i (tab_cons tok_i (tab_cons sk_i (tab_cons stx_47 (tab_cons alive9 tab_nil))))))) mixed [.tmp 4] Try.func10 rfl rfl (by kernel_rfl) (by kernel_rfl) (fun _=>rfl) (by kernel_rfl) ?_
 rintro ⟨l0,l1⟩ K ⟨hl,hl'⟩ hK
 dsimp only at *
 have hba:=bc_all l0
 have hba':=bc_all l1
 unfold entry
 repeat' (first|((first|apply qwd|apply qa1|apply qh1|apply qg1 rfl|apply qcd);(try intro K hk);focus (simp only [lvY47_10,mkT,go_sem,Nat.reduceEqDiff,↓reduceIte,reduceCtorEq,exl,true_and,encFs_iff,gdX];first|exact rfl|((repeat refine ai ?_);intros;apply hk;clear hk K)))|apply qw1|refine qwc lvY47_10 ?_|apply qt1|apply qw2|apply qt3|apply qw4|apply qj1|apply qj2|apply qj3|apply qj4|apply qu1|(refine qj6 ?_ ?_<;>intro hc<;>(try simp only [hc])<;>(try simp only [decide_eq_true_eq,decide_eq_false_iff_not] at hc)<;>(try (exfalso;omega))))
 all_goals first
  | (((first|refine fin_ret ?_|refine fin_end ?_);simp only [go_sem,↓upd_def,↓reduceIte])
     exact hK)
  | skip
 rename (List FieldD×List FieldD)=>y9
 rename (List PartD×List FieldD)=>x9
 obtain ⟨xs,d⟩:=x9
 obtain ⟨a,b⟩:=y9
 rename _∧_∧bdFs _=>hgx
 rename bdFs _∧bdFs _=>hgy
 obtain ⟨b1,b2,b3⟩:=hgx
 obtain ⟨ba,bb⟩:=hgy
 dsimp only at b1 b2 b3 ba bb
 have hoa:=bdFs_ok ba
 have hob:=bdFs_ok bb
 have hla:=flD_len (data:=a) b1
 have hlb:=flD_len (data:=b) b1
 cases hsh:shM a b with
 | false =>
   repeat' (first|((first|apply qwd|apply qa1|apply qg1 rfl|apply qcd);(try intro K hk);focus (simp only [lvY47_10,mkT,go_sem,Nat.reduceEqDiff,↓reduceIte,exl,ex_unit9,true_and,encPs_iff,encFs_iff,Bool.not_true,Bool.not_false,hsh];first|exact rfl|((repeat refine ai ?_);intros;apply hk;clear hk K)))|apply qw1|refine qwc lvY47_10 ?_|apply qt1|apply qw2|apply qt3|apply qw4|apply qj1|apply qj3|apply qj4|apply qu1)
   all_goals first
    | (((first|refine fin_ret ?_|refine fin_end ?_);simp only [go_sem,↓upd_def,↓reduceIte])
       exact hK)
    | skip
 | true =>
   have hlk:=sh_like hsh
   cases hfa:fillM xs a with
   | none =>
     repeat' (first|((first|apply qwd|apply qa1|apply qh1|apply qg1 rfl|apply qcd);(try intro K hk);focus (simp only [lvY47_10,mkT,go_sem,Nat.reduceEqDiff,Nat.reduceLeDiff,↓reduceIte,exl,ex_unit9,true_and,encPs_iff,encFs_iff,Bool.not_true,Bool.not_false,hsh,hfa,Option.getD_none,Option.isSome_none];first|exact rfl|((repeat refine ai ?_);intros;apply hk;clear hk K)))|apply qw1|refine qwc lvY47_10 ?_|apply qt1|apply qw2|apply qt3|apply qw4|apply qj1|apply qj2|apply qj3|apply qj4|apply qu1)
     all_goals first
      | (((first|refine fin_ret ?_|refine fin_end ?_);simp only [go_sem,↓upd_def,↓reduceIte])
         exact hK)
      | skip
   | some s =>
     rw [hfa,Option.getD_some] at hla
     cases hfb:fillM xs b with
     | none =>
       repeat' (first|((first|apply qwd|apply qa1|apply qh1|apply qg1 rfl|apply qcd);(try intro K hk);focus (simp only [lvY47_10,mkT,go_sem,Nat.reduceEqDiff,Nat.reduceLeDiff,↓reduceIte,exl,ex_unit9,true_and,encPs_iff,encFs_iff,Bool.not_true,Bool.not_false,hsh,hfa,hfb,Option.getD_none,Option.isSome_none,Option.getD_some,Option.isSome_some];first|exact rfl|((repeat refine ai ?_);intros;apply hk;clear hk K)))|apply qw1|refine qwc lvY47_10 ?_|apply qt1|apply qw2|apply qt3|apply qw4|apply qj1|apply qj2|apply qj3|apply qj4|apply qu1)
       all_goals first
        | (((first|refine fin_ret ?_|refine fin_end ?_);simp only [go_sem,↓upd_def,↓reduceIte])
           exact hK)
        | skip
     | some t =>
       rw [hfb,Option.getD_some] at hlb
       cases hta:tokM s with
       | none =>
         repeat' (first|((first|apply qwd|apply qa1|apply qh1|apply qg1 rfl|apply qcd);(try intro K hk);focus (simp only [lvY47_10,mkT,go_sem,Nat.reduceEqDiff,↓reduceIte,exl,ex_unit9,true_and,encPs_iff,encFs_iff,Bool.not_true,Bool.not_false,hsh,hfa,hfb,hta,Option.getD_none,Option.isSome_none,Option.getD_some,Option.isSome_some];first|exact rfl|((repeat refine ai ?_);intros;apply hk;clear hk K)))|apply qw1|refine qwc lvY47_10 ?_|apply qt1|apply qw2|apply qt3|apply qw4|apply qj1|apply qj2|apply qj3|apply qj4|apply qu1)
         all_goals first
          | (((first|refine fin_ret ?_|refine fin_end ?_);simp only [go_sem,↓upd_def,↓reduceIte])
             exact hK)
          | skip
       | some la =>
         cases htb:tokM t with
         | none =>
           repeat' (first|((first|apply qwd|apply qa1|apply qh1|apply qg1 rfl|apply qcd);(try intro K hk);focus (simp only [lvY47_10,mkT,go_sem,Nat.reduceEqDiff,↓reduceIte,exl,ex_unit9,true_and,encPs_iff,encFs_iff,Bool.not_true,Bool.not_false,hsh,hfa,hfb,hta,htb,Option.getD_none,Option.isSome_none,Option.getD_some,Option.isSome_some];first|exact rfl|((repeat refine ai ?_);intros;apply hk;clear hk K)))|apply qw1|refine qwc lvY47_10 ?_|apply qt1|apply qw2|apply qt3|apply qw4|apply qj1|apply qj2|apply qj4|apply qu1)
           all_goals first
            | (((first|refine fin_ret ?_|refine fin_end ?_);simp only [go_sem,↓upd_def,↓reduceIte])
               exact hK)
            | skip
         | some lb =>
           have hsk:=skel_law hlk hfa hfb hta htb
           have hwa:wfTks la:=wf_tok hta
           have hwb:wfTks lb:=wf_tok htb
           have hkl:(skelM lb).length≤1048576:=by
            have:=skel_len lb
            have:=hwb.1.1
            omega
           repeat' (first|((first|apply qwd|apply qa1|apply qh1|apply qg1 rfl|apply qcd);(try intro K hk);focus (simp only [lvY47_10,mkT,go_sem,Nat.reduceEqDiff,↓reduceIte,exl,true_and,encPs_iff,encFs_iff,encTks_iff,strs_iff,Bool.not_true,hsh,hfa,hfb,hta,htb,hsk,Option.getD_some,Option.isSome_some];first|exact rfl|((repeat refine ai ?_);intros;apply hk;clear hk K)))|apply qw1|refine qwc lvY47_10 ?_|apply qt1|apply qw2|apply qw4|apply qj2|apply qj4|apply qu1)
           all_goals first
            | (((first|refine fin_ret ?_|refine fin_end ?_);simp only [go_sem,↓upd_def,↓reduceIte])
               exact hK)
            | skip
end Go.Proofs.Ytnbjogilidfkdaa
