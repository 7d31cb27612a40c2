/- Contracts: what a text is divided into (the reference's reading). -/
import Derived.Test.YtnbjogilidfkdaaEX53A
import Derived.Test.YtnbjogilidfkdaaEX63D
import Derived.Test.YtnbjogilidfkdaaEK28
import Derived.Test.YtnbjogilidfkdaaEX1
import Derived.Test.YtnbjogilidfkdaaEK3

namespace Go.Proofs.Ytnbjogilidfkdaa
attribute [local irreducible] awp arun acalm FinP Fin AX.then AX.inBlock Again aG gsel amix amixN amixC aop aopc aopd cutK
attribute [local go_sem] aBSliceD aSlice aSliceC boundOf aMk aCall aCallC aLenL aLen aPick_t aPick_f aNil aAlloc aBox aBuild bldPV aBSlice bsPV aApp newsOf destOf drp aConvX aConv aConvInt aLoad cellsAt aStore cellsPV setAt aFld aField aIdx aIndex aUn aBin' aBin aMax aExtract pvOf PV.isCell nmbL PV.nmb List.map_cons List.map_nil List.all_cons List.all_nil Bool.and_true Bool.true_and if_true if_false List.getD_cons_zero List.getD_cons_succ List.getD_nil Option.isSome_some true_and and_true and_self eq_self true_or or_true List.drop_zero List.drop_succ_cons List.drop_nil List.take_zero List.take_succ_cons List.take_nil List.length_cons List.length_nil List.length_map Option.getD_some Option.getD_none List.nil_append List.cons_append List.append_nil Option.some.injEq exists_eq_left' List.getElem?_cons_zero List.getElem?_cons_succ Int.toNat_natCast Int.natCast_inj toNat_succ Nat.zero_add res res1 resC owns owns1 ownsC List.flatMap_cons List.flatMap_nil List.flatten_cons List.flatten_nil List.mem_cons List.not_mem_nil or_false false_or forall_eq forall_eq_or_imp isFro frz frz1 pureC tabA isBld List.cons.injEq PV.seq.injEq PV.int.injEq PV.str.injEq PV.bool.injEq PV.agg.injEq inR tab Γof aRes packR Option.map_some Option.map_none rel Prod.exists exists_and_left exists_eq_left and_assoc beq_self_eq_true Bool.not_true Bool.not_false decide_true decide_false List.set_cons_zero List.set_cons_succ rst_nil rst_cons
attribute [local go_sem ↓] evT upd_def aop aopc aopd
set_option maxRecDepth 100000
set_option linter.unusedVariables false
set_option linter.unusedSimpArgs false
open Go.RowKit
def lvX63_59:Nat→List Nat
 | 0=>[0]
 | 1=>[0,4]
 | 2=>[0,4,5]
 | 3=>[0,4,5,6]
 | 4=>[0,4,5,6,7]
 | 5=>[0,4,5,6,7,8]
 | 6=>[0,4,5,6,7,8,17]
 | 7=>[0,4,5,6,7,8]
 | 8=>[0,4,5,6,7,8,9]
 | 9=>[0,4,5,6,7,8,9,10]
 | 10=>[0,4,5,6,7,8,9,10,30]
 | 11=>[0,4,5,8,9]
 | 12=>[0,4,5,6,8,9]
 | 13=>[0,4,5,6,7,8,9]
 | 14=>[0,4,5,6,7,8,9,10,45]
 | 15=>[0,4,5,7,8,9]
 | 16=>[0,4,5,6,7,8,9]
 | 17=>[0,4,5,6,7,8,9,10,59]
 | 18=>[0,4,5,7,8,9]
 | 19=>[0,4,5,6,7,8,9]
 | 20=>[0,4,5,6,7,8,9,10,74]
 | 21=>[0,4,5,7,8,9]
 | 22=>[0,4,5,7,8,9]
 | 23=>[0,4,5,6,7,8,9]
 | 24=>[0,4,5,6,7,8,9,10,99]
 | 25=>[0,4,5,7,8,9]
 | 26=>[0,4,5,6,7,8,9]
 | 27=>[0,4,5,6,7,8,9,10,112]
 | 28=>[0,4,5,7,8,9]
 | 29=>[0,4,5,6,7,8,9]
 | 30=>[0,4,5,6,7,8,9,10,129]
 | 31=>[0,4,5,6,7,8,9]
 | 32=>[0,4,5,6,7,8]
 | 33=>[0,4,5,6,7,8,158]
 | 34=>[2,3]
 | 35=>[0,4,5]
 | 36=>[4,177]
 | 37=>[2,3]
 | 38=>[2,3]
 | _=>[]
--LV=X63
@[go_sem] def tksC:PC:=rel (α:=Bs) (fun x=>[.str x]) (fun x=>x.length≤1048576) (fun x=> .tup [.seq (encTks ((tokM x).getD [])),.bool (tokM x).isSome])
set_option maxHeartbeats 40000000 in
theorem tok_s:PureOk Try.prog 59 tksC:=by
 refine pure_relA 1 (tabA_cons put6_ok (tabA_nil (Γof_ok (tab_cons text_s (tab_cons step_s (tab_cons un_s (tab_cons in_s (tab_cons cl6_s tab_nil)))))))) (tab_cons text_s (tab_cons step_s (tab_cons un_s (tab_cons in_s (tab_cons cl6_s tab_nil))))) mixed [.tmp 2,.tmp 3] Try.func59 rfl rfl (by kernel_rfl) (by kernel_rfl) (fun _=>rfl) (by kernel_rfl) ?_
 rintro s K hsl hK
 unfold entry
 repeat' (first|((first|apply qwd|apply qa1|apply qa2|apply qa3|apply qh1|apply qh2|apply qg1 rfl|apply qcd);(try intro K hk);focus (simp only [lvX63_59,mkT,go_sem,Nat.reduceEqDiff,Nat.reduceAdd,Nat.reduceLeDiff,Nat.reduceLT,Nat.reduceSub,Int.reduceToNat,↓reduceIte,reduceCtorEq];first|exact rfl|((repeat refine ai ?_);intros;apply hk;clear hk K)))|apply qw8|apply qw1|refine qwc lvX63_59 ?_|apply qt1|apply qw5|apply qw2|apply qw9|apply qt2|apply qt3|apply qt4|apply qt5|apply qt6|apply qw3|apply qw4|apply qj1|apply qj2|apply qj3|apply qj4|apply qj5|apply qu1|apply qu2|(refine qj6 ?_ ?_<;>intro hc<;>(try simp only [hc])<;>(try simp only [decide_eq_true_eq,decide_eq_false_iff_not,Bool.not_eq_true',Bool.not_eq_false',Bool.not_eq_true,reduceCtorEq] at hc)<;>(try (exfalso;omega)))|(refine qt7 ?_ ?_;focus decide)|(refine qw7 ?_ ?_ ?_;(focus (decide +kernel));(focus (decide +kernel))))
 refine s_loop (T63 s) M63 3 (good63 s) (mu63 s) (0,ts0,true) (by omega) (by unfold good63;exact ⟨Nat.zero_le _,TsAt.zero s,fun _=>rfl⟩) ?_ ?_
 · simp [T63,M63,fits,fitsT,fitsM,upd_def,PV.nmb,nmbL,MB.nmb,List.getD_cons_zero,List.getD_cons_succ,ts0,st0,encS_mk,encTks_nil]
 rintro ⟨k,x,pb⟩ ⟨hk,hx,hpb⟩
 dsimp only at hk hx hpb
 by_cases hkl:k<s.length
 · have hm0:=step_modes hx.v (s.getD k 0)
   have hv:=hx.v
   obtain ⟨⟨m,tg,ta,ts⟩,buf,ps,out⟩:=x
   dsimp only at hm0 hv hpb
   generalize hb:s.getD k 0=b at *
   have hsn:=step_seen (b:=b) hv rfl
   have hvn:=stV_step ⟨m,tg,ta,ts⟩ b
   generalize hn:step ⟨m,tg,ta,ts⟩ b=nn at *
   obtain ⟨n,ng,na,ns⟩:=nn
   dsimp only at hm0 hsn
   have hs1:ns=true→6≤n∧n≤8:=by
    intro h
    rw [hsn] at h
    split at h
    · omega
    · have:=of_decide_eq_true h
      omega
   have hmo:=modes hv
   dsimp only at hmo
   have hfin:tokM s=none→ ∀ σ j,σ.tmp 2= .own j→σ.mem j=some (.row 29 4 [])→σ.tmp 3= .bool false→FinP Try.prog [.tmp 2,.tmp 3] K .ret σ:=by
    intro e σ j h1 h2 h3
    obtain ⟨τ,mm,nx⟩:=σ
    dsimp only at h1 h2 h3
    rw [e] at hK
    refine fin_ret ?_
    simp only [go_sem,h1,h2,h3,not_false_eq_true,ne_eq,↓upd_def,Nat.reduceEqDiff,Nat.reduceAdd,↓reduceIte,reduceCtorEq]
    exact hK
   clear hsn
   cases ns with
   | true =>
     obtain ⟨q1,q2⟩:=hs1 rfl
     clear hs1
     rcases hm0 with hm1|⟨hm1,_⟩|⟨hm1,_⟩|⟨hm1,_⟩|⟨hm1,_⟩|⟨hm1,_⟩|⟨hm1,_⟩|⟨hm1,_⟩|⟨hm1,_⟩|⟨hm1,_⟩|⟨hm1,h|h⟩|⟨hm1,h|h⟩|⟨hm1,h|h|h⟩|⟨hm1,h⟩|⟨hm1,h⟩|⟨hm1,h⟩
     all_goals first
      | (exfalso;omega)
      | (refine w63_7e hsl hkl hb hn hx hpb ?_ (by omega) (by omega) rfl;intro e σ j h1 h2 h3;have hh:=hfin e σ j h1 h2 h3;obtain ⟨τ,mm,nx⟩:=σ;(repeat' (first|((first|apply qwd|apply qa1|apply qa2|apply qa3|apply qh1|apply qh2|apply qg1 rfl|apply qcd);(try intro K hk);focus (simp only [lvX63_59,mkT,go_sem,Nat.reduceEqDiff,Nat.reduceAdd,Nat.reduceLeDiff,Nat.reduceLT,Nat.reduceSub,Int.reduceToNat,↓reduceIte,reduceCtorEq];first|exact rfl|((repeat refine ai ?_);intros;apply hk;clear hk K)))|apply qw8|apply qw1|refine qwc lvX63_59 ?_|apply qt1|apply qw5|apply qw2|apply qw9|apply qt2|apply qt3|apply qt4|apply qt5|apply qt6|apply qw3|apply qw4|apply qj1|apply qj2|apply qj3|apply qj4|apply qj5|apply qu1|apply qu2|(refine qj6 ?_ ?_<;>intro hc<;>(try simp only [hc])<;>(try simp only [decide_eq_true_eq,decide_eq_false_iff_not,Bool.not_eq_true',Bool.not_eq_false',Bool.not_eq_true,reduceCtorEq] at hc)<;>(try (exfalso;omega)))|(refine qt7 ?_ ?_;focus decide)|(refine qw7 ?_ ?_ ?_;(focus (decide +kernel));(focus (decide +kernel)))));exact hh)
   | false =>
     clear hs1
     clear hm0
     have hm1:m=0∨m=1∨(2≤m∧m≤8)∨m=9∨m=10∨(11≤m∧m≤13)∨m=14∨m=15:=by omega
     rcases hm1 with hm1|hm1|hm1|hm1|hm1|hm1|hm1|hm1
     · by_cases hn1:n=1
       · refine w63_1 hsl hkl hb hn hx hpb ?_ (by omega) (by omega)
         intro e σ j h1 h2 h3;have hh:=hfin e σ j h1 h2 h3;obtain ⟨τ,mm,nx⟩:=σ;(repeat' (first|((first|apply qwd|apply qa1|apply qa2|apply qa3|apply qh1|apply qh2|apply qg1 rfl|apply qcd);(try intro K hk);focus (simp only [lvX63_59,mkT,go_sem,Nat.reduceEqDiff,Nat.reduceAdd,Nat.reduceLeDiff,Nat.reduceLT,Nat.reduceSub,Int.reduceToNat,↓reduceIte,reduceCtorEq];first|exact rfl|((repeat refine ai ?_);intros;apply hk;clear hk K)))|apply qw8|apply qw1|refine qwc lvX63_59 ?_|apply qt1|apply qw5|apply qw2|apply qw9|apply qt2|apply qt3|apply qt4|apply qt5|apply qt6|apply qw3|apply qw4|apply qj1|apply qj2|apply qj3|apply qj4|apply qj5|apply qu1|apply qu2|(refine qj6 ?_ ?_<;>intro hc<;>(try simp only [hc])<;>(try simp only [decide_eq_true_eq,decide_eq_false_iff_not,Bool.not_eq_true',Bool.not_eq_false',Bool.not_eq_true,reduceCtorEq] at hc)<;>(try (exfalso;omega)))|(refine qt7 ?_ ?_;focus decide)|(refine qw7 ?_ ?_ ?_;(focus (decide +kernel));(focus (decide +kernel)))));exact hh
       · refine w63_7a hsl hkl hb hn hx hpb ?_ (by omega) (by omega)
         intro e σ j h1 h2 h3;have hh:=hfin e σ j h1 h2 h3;obtain ⟨τ,mm,nx⟩:=σ;(repeat' (first|((first|apply qwd|apply qa1|apply qa2|apply qa3|apply qh1|apply qh2|apply qg1 rfl|apply qcd);(try intro K hk);focus (simp only [lvX63_59,mkT,go_sem,Nat.reduceEqDiff,Nat.reduceAdd,Nat.reduceLeDiff,Nat.reduceLT,Nat.reduceSub,Int.reduceToNat,↓reduceIte,reduceCtorEq];first|exact rfl|((repeat refine ai ?_);intros;apply hk;clear hk K)))|apply qw8|apply qw1|refine qwc lvX63_59 ?_|apply qt1|apply qw5|apply qw2|apply qw9|apply qt2|apply qt3|apply qt4|apply qt5|apply qt6|apply qw3|apply qw4|apply qj1|apply qj2|apply qj3|apply qj4|apply qj5|apply qu1|apply qu2|(refine qj6 ?_ ?_<;>intro hc<;>(try simp only [hc])<;>(try simp only [decide_eq_true_eq,decide_eq_false_iff_not,Bool.not_eq_true',Bool.not_eq_false',Bool.not_eq_true,reduceCtorEq] at hc)<;>(try (exfalso;omega)))|(refine qt7 ?_ ?_;focus decide)|(refine qw7 ?_ ?_ ?_;(focus (decide +kernel));(focus (decide +kernel)))));exact hh
     · refine w63_8a hsl hkl hb hn hx hpb ?_ (by omega) rfl
       intro e σ j h1 h2 h3;have hh:=hfin e σ j h1 h2 h3;obtain ⟨τ,mm,nx⟩:=σ;(repeat' (first|((first|apply qwd|apply qa1|apply qa2|apply qa3|apply qh1|apply qh2|apply qg1 rfl|apply qcd);(try intro K hk);focus (simp only [lvX63_59,mkT,go_sem,Nat.reduceEqDiff,Nat.reduceAdd,Nat.reduceLeDiff,Nat.reduceLT,Nat.reduceSub,Int.reduceToNat,↓reduceIte,reduceCtorEq];first|exact rfl|((repeat refine ai ?_);intros;apply hk;clear hk K)))|apply qw8|apply qw1|refine qwc lvX63_59 ?_|apply qt1|apply qw5|apply qw2|apply qw9|apply qt2|apply qt3|apply qt4|apply qt5|apply qt6|apply qw3|apply qw4|apply qj1|apply qj2|apply qj3|apply qj4|apply qj5|apply qu1|apply qu2|(refine qj6 ?_ ?_<;>intro hc<;>(try simp only [hc])<;>(try simp only [decide_eq_true_eq,decide_eq_false_iff_not,Bool.not_eq_true',Bool.not_eq_false',Bool.not_eq_true,reduceCtorEq] at hc)<;>(try (exfalso;omega)))|(refine qt7 ?_ ?_;focus decide)|(refine qw7 ?_ ?_ ?_;(focus (decide +kernel));(focus (decide +kernel)))));exact hh
     · by_cases hn1:n=0
       · refine w63_4 hsl hkl hb hn hx hpb ?_ (by omega) (by omega)
         intro e σ j h1 h2 h3;have hh:=hfin e σ j h1 h2 h3;obtain ⟨τ,mm,nx⟩:=σ;(repeat' (first|((first|apply qwd|apply qa1|apply qa2|apply qa3|apply qh1|apply qh2|apply qg1 rfl|apply qcd);(try intro K hk);focus (simp only [lvX63_59,mkT,go_sem,Nat.reduceEqDiff,Nat.reduceAdd,Nat.reduceLeDiff,Nat.reduceLT,Nat.reduceSub,Int.reduceToNat,↓reduceIte,reduceCtorEq];first|exact rfl|((repeat refine ai ?_);intros;apply hk;clear hk K)))|apply qw8|apply qw1|refine qwc lvX63_59 ?_|apply qt1|apply qw5|apply qw2|apply qw9|apply qt2|apply qt3|apply qt4|apply qt5|apply qt6|apply qw3|apply qw4|apply qj1|apply qj2|apply qj3|apply qj4|apply qj5|apply qu1|apply qu2|(refine qj6 ?_ ?_<;>intro hc<;>(try simp only [hc])<;>(try simp only [decide_eq_true_eq,decide_eq_false_iff_not,Bool.not_eq_true',Bool.not_eq_false',Bool.not_eq_true,reduceCtorEq] at hc)<;>(try (exfalso;omega)))|(refine qt7 ?_ ?_;focus decide)|(refine qw7 ?_ ?_ ?_;(focus (decide +kernel));(focus (decide +kernel)))));exact hh
       by_cases hn2:n=11
       · refine w63_4b hsl hkl hb hn hx hpb ?_ (by omega) (by omega)
         intro e σ j h1 h2 h3;have hh:=hfin e σ j h1 h2 h3;obtain ⟨τ,mm,nx⟩:=σ;(repeat' (first|((first|apply qwd|apply qa1|apply qa2|apply qa3|apply qh1|apply qh2|apply qg1 rfl|apply qcd);(try intro K hk);focus (simp only [lvX63_59,mkT,go_sem,Nat.reduceEqDiff,Nat.reduceAdd,Nat.reduceLeDiff,Nat.reduceLT,Nat.reduceSub,Int.reduceToNat,↓reduceIte,reduceCtorEq];first|exact rfl|((repeat refine ai ?_);intros;apply hk;clear hk K)))|apply qw8|apply qw1|refine qwc lvX63_59 ?_|apply qt1|apply qw5|apply qw2|apply qw9|apply qt2|apply qt3|apply qt4|apply qt5|apply qt6|apply qw3|apply qw4|apply qj1|apply qj2|apply qj3|apply qj4|apply qj5|apply qu1|apply qu2|(refine qj6 ?_ ?_<;>intro hc<;>(try simp only [hc])<;>(try simp only [decide_eq_true_eq,decide_eq_false_iff_not,Bool.not_eq_true',Bool.not_eq_false',Bool.not_eq_true,reduceCtorEq] at hc)<;>(try (exfalso;omega)))|(refine qt7 ?_ ?_;focus decide)|(refine qw7 ?_ ?_ ?_;(focus (decide +kernel));(focus (decide +kernel)))));exact hh
       by_cases hn3:n=3
       · refine w63_5 hsl hkl hb hn hx hpb ?_ (by omega) (by omega)
         intro e σ j h1 h2 h3;have hh:=hfin e σ j h1 h2 h3;obtain ⟨τ,mm,nx⟩:=σ;(repeat' (first|((first|apply qwd|apply qa1|apply qa2|apply qa3|apply qh1|apply qh2|apply qg1 rfl|apply qcd);(try intro K hk);focus (simp only [lvX63_59,mkT,go_sem,Nat.reduceEqDiff,Nat.reduceAdd,Nat.reduceLeDiff,Nat.reduceLT,Nat.reduceSub,Int.reduceToNat,↓reduceIte,reduceCtorEq];first|exact rfl|((repeat refine ai ?_);intros;apply hk;clear hk K)))|apply qw8|apply qw1|refine qwc lvX63_59 ?_|apply qt1|apply qw5|apply qw2|apply qw9|apply qt2|apply qt3|apply qt4|apply qt5|apply qt6|apply qw3|apply qw4|apply qj1|apply qj2|apply qj3|apply qj4|apply qj5|apply qu1|apply qu2|(refine qj6 ?_ ?_<;>intro hc<;>(try simp only [hc])<;>(try simp only [decide_eq_true_eq,decide_eq_false_iff_not,Bool.not_eq_true',Bool.not_eq_false',Bool.not_eq_true,reduceCtorEq] at hc)<;>(try (exfalso;omega)))|(refine qt7 ?_ ?_;focus decide)|(refine qw7 ?_ ?_ ?_;(focus (decide +kernel));(focus (decide +kernel)))));exact hh
       · refine w63_8c hsl hkl hb hn hx hpb ?_ (by omega) (by omega) rfl
         intro e σ j h1 h2 h3;have hh:=hfin e σ j h1 h2 h3;obtain ⟨τ,mm,nx⟩:=σ;(repeat' (first|((first|apply qwd|apply qa1|apply qa2|apply qa3|apply qh1|apply qh2|apply qg1 rfl|apply qcd);(try intro K hk);focus (simp only [lvX63_59,mkT,go_sem,Nat.reduceEqDiff,Nat.reduceAdd,Nat.reduceLeDiff,Nat.reduceLT,Nat.reduceSub,Int.reduceToNat,↓reduceIte,reduceCtorEq];first|exact rfl|((repeat refine ai ?_);intros;apply hk;clear hk K)))|apply qw8|apply qw1|refine qwc lvX63_59 ?_|apply qt1|apply qw5|apply qw2|apply qw9|apply qt2|apply qt3|apply qt4|apply qt5|apply qt6|apply qw3|apply qw4|apply qj1|apply qj2|apply qj3|apply qj4|apply qj5|apply qu1|apply qu2|(refine qj6 ?_ ?_<;>intro hc<;>(try simp only [hc])<;>(try simp only [decide_eq_true_eq,decide_eq_false_iff_not,Bool.not_eq_true',Bool.not_eq_false',Bool.not_eq_true,reduceCtorEq] at hc)<;>(try (exfalso;omega)))|(refine qt7 ?_ ?_;focus decide)|(refine qw7 ?_ ?_ ?_;(focus (decide +kernel));(focus (decide +kernel)))));exact hh
     · by_cases hn1:n=0
       · refine w63_3 hsl hkl hb hn hx hpb ?_ (by omega) (by omega)
         intro e σ j h1 h2 h3;have hh:=hfin e σ j h1 h2 h3;obtain ⟨τ,mm,nx⟩:=σ;(repeat' (first|((first|apply qwd|apply qa1|apply qa2|apply qa3|apply qh1|apply qh2|apply qg1 rfl|apply qcd);(try intro K hk);focus (simp only [lvX63_59,mkT,go_sem,Nat.reduceEqDiff,Nat.reduceAdd,Nat.reduceLeDiff,Nat.reduceLT,Nat.reduceSub,Int.reduceToNat,↓reduceIte,reduceCtorEq];first|exact rfl|((repeat refine ai ?_);intros;apply hk;clear hk K)))|apply qw8|apply qw1|refine qwc lvX63_59 ?_|apply qt1|apply qw5|apply qw2|apply qw9|apply qt2|apply qt3|apply qt4|apply qt5|apply qt6|apply qw3|apply qw4|apply qj1|apply qj2|apply qj3|apply qj4|apply qj5|apply qu1|apply qu2|(refine qj6 ?_ ?_<;>intro hc<;>(try simp only [hc])<;>(try simp only [decide_eq_true_eq,decide_eq_false_iff_not,Bool.not_eq_true',Bool.not_eq_false',Bool.not_eq_true,reduceCtorEq] at hc)<;>(try (exfalso;omega)))|(refine qt7 ?_ ?_;focus decide)|(refine qw7 ?_ ?_ ?_;(focus (decide +kernel));(focus (decide +kernel)))));exact hh
       · refine w63_8b hsl hkl hb hn hx hpb ?_ (by omega) (by omega) rfl
         intro e σ j h1 h2 h3;have hh:=hfin e σ j h1 h2 h3;obtain ⟨τ,mm,nx⟩:=σ;(repeat' (first|((first|apply qwd|apply qa1|apply qa2|apply qa3|apply qh1|apply qh2|apply qg1 rfl|apply qcd);(try intro K hk);focus (simp only [lvX63_59,mkT,go_sem,Nat.reduceEqDiff,Nat.reduceAdd,Nat.reduceLeDiff,Nat.reduceLT,Nat.reduceSub,Int.reduceToNat,↓reduceIte,reduceCtorEq];first|exact rfl|((repeat refine ai ?_);intros;apply hk;clear hk K)))|apply qw8|apply qw1|refine qwc lvX63_59 ?_|apply qt1|apply qw5|apply qw2|apply qw9|apply qt2|apply qt3|apply qt4|apply qt5|apply qt6|apply qw3|apply qw4|apply qj1|apply qj2|apply qj3|apply qj4|apply qj5|apply qu1|apply qu2|(refine qj6 ?_ ?_<;>intro hc<;>(try simp only [hc])<;>(try simp only [decide_eq_true_eq,decide_eq_false_iff_not,Bool.not_eq_true',Bool.not_eq_false',Bool.not_eq_true,reduceCtorEq] at hc)<;>(try (exfalso;omega)))|(refine qt7 ?_ ?_;focus decide)|(refine qw7 ?_ ?_ ?_;(focus (decide +kernel));(focus (decide +kernel)))));exact hh
     · by_cases hn1:n=0
       · refine w63_2 hsl hkl hb hn hx hpb ?_ (by omega) (by omega)
         intro e σ j h1 h2 h3;have hh:=hfin e σ j h1 h2 h3;obtain ⟨τ,mm,nx⟩:=σ;(repeat' (first|((first|apply qwd|apply qa1|apply qa2|apply qa3|apply qh1|apply qh2|apply qg1 rfl|apply qcd);(try intro K hk);focus (simp only [lvX63_59,mkT,go_sem,Nat.reduceEqDiff,Nat.reduceAdd,Nat.reduceLeDiff,Nat.reduceLT,Nat.reduceSub,Int.reduceToNat,↓reduceIte,reduceCtorEq];first|exact rfl|((repeat refine ai ?_);intros;apply hk;clear hk K)))|apply qw8|apply qw1|refine qwc lvX63_59 ?_|apply qt1|apply qw5|apply qw2|apply qw9|apply qt2|apply qt3|apply qt4|apply qt5|apply qt6|apply qw3|apply qw4|apply qj1|apply qj2|apply qj3|apply qj4|apply qj5|apply qu1|apply qu2|(refine qj6 ?_ ?_<;>intro hc<;>(try simp only [hc])<;>(try simp only [decide_eq_true_eq,decide_eq_false_iff_not,Bool.not_eq_true',Bool.not_eq_false',Bool.not_eq_true,reduceCtorEq] at hc)<;>(try (exfalso;omega)))|(refine qt7 ?_ ?_;focus decide)|(refine qw7 ?_ ?_ ?_;(focus (decide +kernel));(focus (decide +kernel)))));exact hh
       · refine w63_7b hsl hkl hb hn hx hpb ?_ (by omega) (by omega)
         intro e σ j h1 h2 h3;have hh:=hfin e σ j h1 h2 h3;obtain ⟨τ,mm,nx⟩:=σ;(repeat' (first|((first|apply qwd|apply qa1|apply qa2|apply qa3|apply qh1|apply qh2|apply qg1 rfl|apply qcd);(try intro K hk);focus (simp only [lvX63_59,mkT,go_sem,Nat.reduceEqDiff,Nat.reduceAdd,Nat.reduceLeDiff,Nat.reduceLT,Nat.reduceSub,Int.reduceToNat,↓reduceIte,reduceCtorEq];first|exact rfl|((repeat refine ai ?_);intros;apply hk;clear hk K)))|apply qw8|apply qw1|refine qwc lvX63_59 ?_|apply qt1|apply qw5|apply qw2|apply qw9|apply qt2|apply qt3|apply qt4|apply qt5|apply qt6|apply qw3|apply qw4|apply qj1|apply qj2|apply qj3|apply qj4|apply qj5|apply qu1|apply qu2|(refine qj6 ?_ ?_<;>intro hc<;>(try simp only [hc])<;>(try simp only [decide_eq_true_eq,decide_eq_false_iff_not,Bool.not_eq_true',Bool.not_eq_false',Bool.not_eq_true,reduceCtorEq] at hc)<;>(try (exfalso;omega)))|(refine qt7 ?_ ?_;focus decide)|(refine qw7 ?_ ?_ ?_;(focus (decide +kernel));(focus (decide +kernel)))));exact hh
     · refine w63_7c hsl hkl hb hn hx hpb ?_ (by omega)
       intro e σ j h1 h2 h3;have hh:=hfin e σ j h1 h2 h3;obtain ⟨τ,mm,nx⟩:=σ;(repeat' (first|((first|apply qwd|apply qa1|apply qa2|apply qa3|apply qh1|apply qh2|apply qg1 rfl|apply qcd);(try intro K hk);focus (simp only [lvX63_59,mkT,go_sem,Nat.reduceEqDiff,Nat.reduceAdd,Nat.reduceLeDiff,Nat.reduceLT,Nat.reduceSub,Int.reduceToNat,↓reduceIte,reduceCtorEq];first|exact rfl|((repeat refine ai ?_);intros;apply hk;clear hk K)))|apply qw8|apply qw1|refine qwc lvX63_59 ?_|apply qt1|apply qw5|apply qw2|apply qw9|apply qt2|apply qt3|apply qt4|apply qt5|apply qt6|apply qw3|apply qw4|apply qj1|apply qj2|apply qj3|apply qj4|apply qj5|apply qu1|apply qu2|(refine qj6 ?_ ?_<;>intro hc<;>(try simp only [hc])<;>(try simp only [decide_eq_true_eq,decide_eq_false_iff_not,Bool.not_eq_true',Bool.not_eq_false',Bool.not_eq_true,reduceCtorEq] at hc)<;>(try (exfalso;omega)))|(refine qt7 ?_ ?_;focus decide)|(refine qw7 ?_ ?_ ?_;(focus (decide +kernel));(focus (decide +kernel)))));exact hh
     · by_cases hn1:n=9
       · refine w63_6 hsl hkl hb hn hx hpb ?_ (by omega) (by omega)
         intro e σ j h1 h2 h3;have hh:=hfin e σ j h1 h2 h3;obtain ⟨τ,mm,nx⟩:=σ;(repeat' (first|((first|apply qwd|apply qa1|apply qa2|apply qa3|apply qh1|apply qh2|apply qg1 rfl|apply qcd);(try intro K hk);focus (simp only [lvX63_59,mkT,go_sem,Nat.reduceEqDiff,Nat.reduceAdd,Nat.reduceLeDiff,Nat.reduceLT,Nat.reduceSub,Int.reduceToNat,↓reduceIte,reduceCtorEq];first|exact rfl|((repeat refine ai ?_);intros;apply hk;clear hk K)))|apply qw8|apply qw1|refine qwc lvX63_59 ?_|apply qt1|apply qw5|apply qw2|apply qw9|apply qt2|apply qt3|apply qt4|apply qt5|apply qt6|apply qw3|apply qw4|apply qj1|apply qj2|apply qj3|apply qj4|apply qj5|apply qu1|apply qu2|(refine qj6 ?_ ?_<;>intro hc<;>(try simp only [hc])<;>(try simp only [decide_eq_true_eq,decide_eq_false_iff_not,Bool.not_eq_true',Bool.not_eq_false',Bool.not_eq_true,reduceCtorEq] at hc)<;>(try (exfalso;omega)))|(refine qt7 ?_ ?_;focus decide)|(refine qw7 ?_ ?_ ?_;(focus (decide +kernel));(focus (decide +kernel)))));exact hh
       · refine w63_7d hsl hkl hb hn hx hpb ?_ (by omega) (by omega)
         intro e σ j h1 h2 h3;have hh:=hfin e σ j h1 h2 h3;obtain ⟨τ,mm,nx⟩:=σ;(repeat' (first|((first|apply qwd|apply qa1|apply qa2|apply qa3|apply qh1|apply qh2|apply qg1 rfl|apply qcd);(try intro K hk);focus (simp only [lvX63_59,mkT,go_sem,Nat.reduceEqDiff,Nat.reduceAdd,Nat.reduceLeDiff,Nat.reduceLT,Nat.reduceSub,Int.reduceToNat,↓reduceIte,reduceCtorEq];first|exact rfl|((repeat refine ai ?_);intros;apply hk;clear hk K)))|apply qw8|apply qw1|refine qwc lvX63_59 ?_|apply qt1|apply qw5|apply qw2|apply qw9|apply qt2|apply qt3|apply qt4|apply qt5|apply qt6|apply qw3|apply qw4|apply qj1|apply qj2|apply qj3|apply qj4|apply qj5|apply qu1|apply qu2|(refine qj6 ?_ ?_<;>intro hc<;>(try simp only [hc])<;>(try simp only [decide_eq_true_eq,decide_eq_false_iff_not,Bool.not_eq_true',Bool.not_eq_false',Bool.not_eq_true,reduceCtorEq] at hc)<;>(try (exfalso;omega)))|(refine qt7 ?_ ?_;focus decide)|(refine qw7 ?_ ?_ ?_;(focus (decide +kernel));(focus (decide +kernel)))));exact hh
     · refine w63_8d hsl hkl hb hn hx hpb ?_ (by omega) rfl
       intro e σ j h1 h2 h3;have hh:=hfin e σ j h1 h2 h3;obtain ⟨τ,mm,nx⟩:=σ;(repeat' (first|((first|apply qwd|apply qa1|apply qa2|apply qa3|apply qh1|apply qh2|apply qg1 rfl|apply qcd);(try intro K hk);focus (simp only [lvX63_59,mkT,go_sem,Nat.reduceEqDiff,Nat.reduceAdd,Nat.reduceLeDiff,Nat.reduceLT,Nat.reduceSub,Int.reduceToNat,↓reduceIte,reduceCtorEq];first|exact rfl|((repeat refine ai ?_);intros;apply hk;clear hk K)))|apply qw8|apply qw1|refine qwc lvX63_59 ?_|apply qt1|apply qw5|apply qw2|apply qw9|apply qt2|apply qt3|apply qt4|apply qt5|apply qt6|apply qw3|apply qw4|apply qj1|apply qj2|apply qj3|apply qj4|apply qj5|apply qu1|apply qu2|(refine qj6 ?_ ?_<;>intro hc<;>(try simp only [hc])<;>(try simp only [decide_eq_true_eq,decide_eq_false_iff_not,Bool.not_eq_true',Bool.not_eq_false',Bool.not_eq_true,reduceCtorEq] at hc)<;>(try (exfalso;omega)))|(refine qt7 ?_ ?_;focus decide)|(refine qw7 ?_ ?_ ?_;(focus (decide +kernel));(focus (decide +kernel)))));exact hh
 · obtain rfl:k=s.length:=by omega
   have hf:=hx.fin (Nat.le_refl _)
   have hlo:=hx.lo
   have hbr:=hx.buf
   clear hx
   obtain ⟨⟨m,tg,ta,ts⟩,buf,ps,out⟩:=x
   dsimp only at *
   have hpl:=putTk_len out (tkText (unT buf))
   have hpe:putTk out ⟨1,[],unT buf,[]⟩=putTk out (tkText (unT buf)):=rfl
   have hul:=unT_len buf
   unfold tsFin at hf
   dsimp only at hf
   by_cases hm:m=0
   · subst hm
     cases ht:textB s with
     | false =>
       rw [ht,if_neg (by decide)] at hf
       rw [hf] at hK
       cases pb<;>simp only [T63,M63,mkS,mkT,mkM,cond_true,cond_false,List.append_nil,List.cons_append,List.nil_append]
       all_goals
        repeat' (first|((first|apply qwd|apply qa1|apply qa2|apply qa3|apply qh1|apply qh2|apply qg1 rfl|apply qcd);(try intro K hk);focus (simp only [lvX63_59,mkT,go_sem,Nat.reduceEqDiff,Nat.reduceAdd,Nat.reduceLeDiff,Nat.reduceLT,Nat.reduceSub,Int.reduceToNat,↓reduceIte,reduceCtorEq,ht,exl,encTks_iff,prs_nil,hpe,encS_eq,ex_St,encS_mk,encTks_len,encPrs_len,encTks_all,encPrs_all,List.length_nil,Int.reduceEq,gt_iff_lt,decide_true,decide_false,Bool.not_true,Bool.not_false];first|exact rfl|((repeat refine ai ?_);intros;apply hk;clear hk K)))|apply qw8|apply qw1|refine qwc lvX63_59 ?_|apply qt1|apply qw5|apply qw2|apply qw9|apply qt2|apply qt3|apply qt4|apply qt5|apply qt6|apply qw3|apply qw4|apply qj1|apply qj2|apply qj3|apply qj4|apply qj5|apply qu1|apply qu2|(refine qj6 ?_ ?_<;>intro hc<;>(try simp only [hc])<;>(try simp only [decide_eq_true_eq,decide_eq_false_iff_not,Bool.not_eq_true',Bool.not_eq_false',Bool.not_eq_true,reduceCtorEq] at hc)<;>(try (exfalso;omega)))|(refine qt7 ?_ ?_;focus decide)|(refine qw7 ?_ ?_ ?_;(focus (decide +kernel));(focus (decide +kernel))))
        ((first|refine fin_ret ?_|refine fin_end ?_);simp only [go_sem,↓upd_def,Nat.reduceEqDiff,Nat.reduceAdd,↓reduceIte,reduceCtorEq])
        exact hK
     | true =>
       rw [ht,if_pos rfl] at hf
       by_cases h60:(putTk out (tkText (unT buf))).length≤60
       · rw [if_neg (by omega)] at hf
         rw [hf] at hK
         cases pb<;>simp only [T63,M63,mkS,mkT,mkM,cond_true,cond_false,List.append_nil,List.cons_append,List.nil_append]
         all_goals
          repeat' (first|((first|apply qwd|apply qa1|apply qa2|apply qa3|apply qh1|apply qh2|apply qg1 rfl|apply qcd);(try intro K hk);focus (simp only [lvX63_59,mkT,go_sem,Nat.reduceEqDiff,Nat.reduceAdd,Nat.reduceLeDiff,Nat.reduceLT,Nat.reduceSub,Int.reduceToNat,↓reduceIte,reduceCtorEq,ht,exl,encTks_iff,prs_nil,hpe,encS_eq,ex_St,encS_mk,encTks_len,encPrs_len,encTks_all,encPrs_all,List.length_nil,Int.reduceEq,gt_iff_lt,decide_true,decide_false,Bool.not_true,Bool.not_false];first|exact rfl|((repeat refine ai ?_);intros;apply hk;clear hk K)))|apply qw8|apply qw1|refine qwc lvX63_59 ?_|apply qt1|apply qw5|apply qw2|apply qw9|apply qt2|apply qt3|apply qt4|apply qt5|apply qt6|apply qw3|apply qw4|apply qj1|apply qj2|apply qj3|apply qj4|apply qj5|apply qu1|apply qu2|(refine qj6 ?_ ?_<;>intro hc<;>(try simp only [hc])<;>(try simp only [decide_eq_true_eq,decide_eq_false_iff_not,Bool.not_eq_true',Bool.not_eq_false',Bool.not_eq_true,reduceCtorEq] at hc)<;>(try (exfalso;omega)))|(refine qt7 ?_ ?_;focus decide)|(refine qw7 ?_ ?_ ?_;(focus (decide +kernel));(focus (decide +kernel))))
          ((first|refine fin_ret ?_|refine fin_end ?_);simp only [go_sem,↓upd_def,Nat.reduceEqDiff,Nat.reduceAdd,↓reduceIte,reduceCtorEq])
          exact hK
       · rw [if_pos (by omega)] at hf
         rw [hf] at hK
         cases pb<;>simp only [T63,M63,mkS,mkT,mkM,cond_true,cond_false,List.append_nil,List.cons_append,List.nil_append]
         all_goals
          repeat' (first|((first|apply qwd|apply qa1|apply qa2|apply qa3|apply qh1|apply qh2|apply qg1 rfl|apply qcd);(try intro K hk);focus (simp only [lvX63_59,mkT,go_sem,Nat.reduceEqDiff,Nat.reduceAdd,Nat.reduceLeDiff,Nat.reduceLT,Nat.reduceSub,Int.reduceToNat,↓reduceIte,reduceCtorEq,ht,exl,encTks_iff,prs_nil,hpe,encS_eq,ex_St,encS_mk,encTks_len,encPrs_len,encTks_all,encPrs_all,List.length_nil,Int.reduceEq,gt_iff_lt,decide_true,decide_false,Bool.not_true,Bool.not_false];first|exact rfl|((repeat refine ai ?_);intros;apply hk;clear hk K)))|apply qw8|apply qw1|refine qwc lvX63_59 ?_|apply qt1|apply qw5|apply qw2|apply qw9|apply qt2|apply qt3|apply qt4|apply qt5|apply qt6|apply qw3|apply qw4|apply qj1|apply qj2|apply qj3|apply qj4|apply qj5|apply qu1|apply qu2|(refine qj6 ?_ ?_<;>intro hc<;>(try simp only [hc])<;>(try simp only [decide_eq_true_eq,decide_eq_false_iff_not,Bool.not_eq_true',Bool.not_eq_false',Bool.not_eq_true,reduceCtorEq] at hc)<;>(try (exfalso;omega)))|(refine qt7 ?_ ?_;focus decide)|(refine qw7 ?_ ?_ ?_;(focus (decide +kernel));(focus (decide +kernel))))
          ((first|refine fin_ret ?_|refine fin_end ?_);simp only [go_sem,↓upd_def,Nat.reduceEqDiff,Nat.reduceAdd,↓reduceIte,reduceCtorEq])
          exact hK
   · have hf:tokM s=none:=by
      rw [hf]
      split
      · rw [if_pos (.inl hm)]
      · rfl
     rw [hf] at hK
     cases pb<;>simp only [T63,M63,mkS,mkT,mkM,cond_true,cond_false,List.append_nil,List.cons_append,List.nil_append]
     all_goals
      repeat' (first|((first|apply qwd|apply qa1|apply qa2|apply qa3|apply qh1|apply qh2|apply qg1 rfl|apply qcd);(try intro K hk);focus (simp only [lvX63_59,mkT,go_sem,Nat.reduceEqDiff,Nat.reduceAdd,Nat.reduceLeDiff,Nat.reduceLT,Nat.reduceSub,Int.reduceToNat,↓reduceIte,reduceCtorEq,hm,exl,encTks_iff,prs_nil,hpe,encS_eq,ex_St,encS_mk,encTks_len,encPrs_len,encTks_all,encPrs_all,List.length_nil,Int.reduceEq,gt_iff_lt,decide_true,decide_false,Bool.not_true,Bool.not_false];first|exact rfl|((repeat refine ai ?_);intros;apply hk;clear hk K)))|apply qw8|apply qw1|refine qwc lvX63_59 ?_|apply qt1|apply qw5|apply qw2|apply qw9|apply qt2|apply qt3|apply qt4|apply qt5|apply qt6|apply qw3|apply qw4|apply qj1|apply qj2|apply qj3|apply qj4|apply qj5|apply qu1|apply qu2|(refine qj6 ?_ ?_<;>intro hc<;>(try simp only [hc])<;>(try simp only [decide_eq_true_eq,decide_eq_false_iff_not,Bool.not_eq_true',Bool.not_eq_false',Bool.not_eq_true,reduceCtorEq] at hc)<;>(try (exfalso;omega)))|(refine qt7 ?_ ?_;focus decide)|(refine qw7 ?_ ?_ ?_;(focus (decide +kernel));(focus (decide +kernel))))
      ((first|refine fin_ret ?_|refine fin_end ?_);simp only [go_sem,↓upd_def,Nat.reduceEqDiff,Nat.reduceAdd,↓reduceIte,reduceCtorEq])
      exact hK
end Go.Proofs.Ytnbjogilidfkdaa

/- Contracts: tags that may stand, tags without an end, balanced tokens. -/
namespace Go.Proofs.Ytnbjogilidfkdaa
attribute [local irreducible] awp arun acalm FinP Fin AX.then AX.inBlock Again aG gsel amix amixN amixC aop aopc aopd cutK
attribute [local go_sem] aBSliceD aSlice aSliceC boundOf aMk aCall aCallC aLenL aLen aPick_t aPick_f aNil aAlloc aBox aBuild bldPV aBSlice bsPV aApp newsOf destOf drp aConvX aConv aConvInt aLoad cellsAt aStore cellsPV setAt aFld aField aIdx aIndex aUn aBin' aBin aMax aExtract pvOf PV.isCell nmbL PV.nmb List.map_cons List.map_nil List.all_cons List.all_nil Bool.and_true Bool.true_and if_true if_false List.getD_cons_zero List.getD_cons_succ List.getD_nil Option.isSome_some true_and and_true and_self eq_self true_or or_true List.drop_zero List.drop_succ_cons List.drop_nil List.take_zero List.take_succ_cons List.take_nil List.length_cons List.length_nil List.length_map Option.getD_some Option.getD_none List.nil_append List.cons_append List.append_nil Option.some.injEq exists_eq_left' List.getElem?_cons_zero List.getElem?_cons_succ Int.toNat_natCast Int.natCast_inj toNat_succ Nat.zero_add res res1 resC owns owns1 ownsC List.flatMap_cons List.flatMap_nil List.flatten_cons List.flatten_nil List.mem_cons List.not_mem_nil or_false false_or forall_eq forall_eq_or_imp isFro frz frz1 pureC tabA isBld List.cons.injEq PV.seq.injEq PV.int.injEq PV.str.injEq PV.bool.injEq PV.agg.injEq inR tab Γof aRes packR Option.map_some Option.map_none rel Prod.exists exists_and_left exists_eq_left and_assoc beq_self_eq_true Bool.not_true Bool.not_false decide_true decide_false List.set_cons_zero List.set_cons_succ rst_nil rst_cons
attribute [local go_sem ↓] evT upd_def aop aopc aopd
set_option maxRecDepth 100000
set_option linter.unusedVariables false
set_option linter.unusedSimpArgs false
open Go.RowKit
def lvX50_16:Nat→List Nat
 | 0=>[0]
 | 1=>[3]
 | 2=>[3,4]
 | 3=>[3,4]
 | 4=>[3,4]
 | 5=>[3,4]
 | 6=>[3,4]
 | 7=>[3,4]
 | 8=>[3,4]
 | 9=>[4]
 | 10=>[2]
 | 11=>[2]
 | _=>[]
def lvX50_46:Nat→List Nat
 | 0=>[0]
 | 1=>[2]
 | _=>[]
def lvX50_50:Nat→List Nat
 | 0=>[0]
 | 1=>[0,4]
 | 2=>[0,4,5]
 | 3=>[4,5,9,10,11]
 | 4=>[4,5,9,10,11,12]
 | 5=>[4,5,7,9,10,11]
 | 6=>[4,5,7,9,10,11,23]
 | 7=>[4,5,7,9,10,11]
 | 8=>[4,5,7,9,10,11]
 | 9=>[4,5,7,9,10,11,35]
 | 10=>[4,5,9,10,11,49]
 | 11=>[2,3]
 | 12=>[4,5,9,10,11]
 | 13=>[4,5,9,10,11]
 | 14=>[2,3]
 | _=>[]
def lvX50_84:Nat→List Nat
 | 0=>[0]
 | 1=>[2]
 | _=>[]
def lvX50_86:Nat→List Nat
 | 0=>[0]
 | 1=>[2]
 | _=>[]
--LV=X50
@[go_sem] def tgC (f:Bs→Bool):PC:=rel (α:=Bs) (fun x=>[.str x]) (fun x=>x.length≤1048576) (fun x=> .bool (f x))
theorem strs_all50 (l:List Bs):(∀ e ∈ strs l,e.length=1)=True:=strs_all l
theorem tgA_i:PureOk Try.prog 16 (tgC tagN):=by
 refine pure_rel 1 tab_nil mixed [.tmp 2] Try.func16 rfl rfl (by kernel_rfl) (by kernel_rfl) (fun _=>rfl) (by kernel_rfl) ?_
 rintro n K hn hK
 unfold tagN at hK
 unfold entry
 repeat' (first|((first|apply qwd|apply qa1|apply qcd);(try intro K hk);focus (simp only [lvX50_16,mkT,go_sem,Nat.reduceEqDiff,↓reduceIte,reduceCtorEq];first|exact rfl|((repeat refine ai ?_);intros;apply hk;clear hk K)))|apply qw1|refine qwc lvX50_16 ?_|apply qt1|apply qw5|apply qw2|apply qt3|apply qt4|apply qt6|apply qw4|apply qj1|apply qj4|(refine qj6 ?_ ?_<;>intro hc<;>(try simp only [hc])<;>(try simp only [decide_eq_true_eq,decide_eq_false_iff_not] at hc)<;>(try (exfalso;omega))))
 all_goals
  ((first|refine fin_ret ?_|refine fin_end ?_);simp only [go_sem,↓upd_def,↓reduceIte])
  refine K_bool hK ?_
  simp [*]
theorem tgA_s:PureOk Try.prog 46 (tgC tagN):=by
 refine pure_rel 1 tab_nil mixed [.tmp 2] Try.func46 rfl rfl (by kernel_rfl) (by kernel_rfl) (fun _=>rfl) (by kernel_rfl) ?_
 rintro n K hn hK
 unfold tagN at hK
 unfold entry
 repeat' (first|((first|apply qwd|apply qa1|apply qh1|apply qg1 rfl);(try intro K hk);focus (simp only [lvX50_46,mkT,go_sem,Nat.reduceEqDiff,↓reduceIte,reduceCtorEq];first|exact rfl|((repeat refine ai ?_);intros;apply hk;clear hk K)))|apply qw1|refine qwc lvX50_46 ?_|apply qt1|apply qw4|apply qj2|apply qj3|apply qu1|(refine qj6 ?_ ?_<;>intro hc<;>(try simp only [hc])<;>(try simp only [decide_eq_true_eq,decide_eq_false_iff_not] at hc)<;>(try (exfalso;omega))))
 all_goals
  ((first|refine fin_ret ?_|refine fin_end ?_);simp only [go_sem,↓upd_def,↓reduceIte])
  refine K_bool hK ?_
  simp [*]
theorem vo_i:PureOk Try.prog 84 (tgC voidN):=by
 refine pure_rel 1 tab_nil mixed [.tmp 2] Try.func84 rfl rfl (by kernel_rfl) (by kernel_rfl) (fun _=>rfl) (by kernel_rfl) ?_
 rintro n K hn hK
 unfold voidN at hK
 unfold entry
 repeat' (first|((first|apply qwd|apply qa1|apply qh1|apply qg1 rfl);(try intro K hk);focus (simp only [lvX50_84,mkT,go_sem,Nat.reduceEqDiff,↓reduceIte,reduceCtorEq];first|exact rfl|((repeat refine ai ?_);intros;apply hk;clear hk K)))|apply qw1|refine qwc lvX50_84 ?_|apply qt1|apply qw4|apply qj2|apply qj3|apply qu1|(refine qj6 ?_ ?_<;>intro hc<;>(try simp only [hc])<;>(try simp only [decide_eq_true_eq,decide_eq_false_iff_not] at hc)<;>(try (exfalso;omega))))
 all_goals
  ((first|refine fin_ret ?_|refine fin_end ?_);simp only [go_sem,↓upd_def,↓reduceIte])
  refine K_bool hK ?_
  simp [*]
theorem vo_s:PureOk Try.prog 86 (tgC voidN):=by
 refine pure_rel 1 tab_nil mixed [.tmp 2] Try.func86 rfl rfl (by kernel_rfl) (by kernel_rfl) (fun _=>rfl) (by kernel_rfl) ?_
 rintro n K hn hK
 unfold voidN at hK
 unfold entry
 repeat' (first|((first|apply qwd|apply qa1|apply qh1|apply qg1 rfl);(try intro K hk);focus (simp only [lvX50_86,mkT,go_sem,Nat.reduceEqDiff,↓reduceIte,reduceCtorEq];first|exact rfl|((repeat refine ai ?_);intros;apply hk;clear hk K)))|apply qw1|refine qwc lvX50_86 ?_|apply qt1|apply qw4|apply qj2|apply qj3|apply qu1|(refine qj6 ?_ ?_<;>intro hc<;>(try simp only [hc])<;>(try simp only [decide_eq_true_eq,decide_eq_false_iff_not] at hc)<;>(try (exfalso;omega))))
 all_goals
  ((first|refine fin_ret ?_|refine fin_end ?_);simp only [go_sem,↓upd_def,↓reduceIte])
  refine K_bool hK ?_
  simp [*]
@[go_sem] def balC:PC:=rel (α:=List TokD) (fun x=>[.seq (encTks x)]) smTks (fun x=> .bool (balF [] x))
@[go_sem] def depC:PC:=rel (α:=List TokD) (fun x=>[.seq (encTks x)]) smTks (fun x=> .tup [.int .i64 (depF [] 0 x).1,.bool (depF [] 0 x).2])
set_option maxHeartbeats 8000000 in
theorem dep_i:PureOk Try.prog 50 depC:=by
 refine pure_rel 1 (tab_cons vo_i tab_nil) mixed [.tmp 2,.tmp 3] Try.func50 rfl rfl (by kernel_rfl) (by kernel_rfl) (fun _=>rfl) (by kernel_rfl) ?_
 rintro l K hsm hK
 obtain ⟨hl,hall⟩:=id hsm
 have hst:=strs_all50
 have hsl:=strs_length
 have hz0:decide (((0:Nat):Int)=0)=true:=by simp
 unfold entry
 repeat' (first|((first|apply qwd|apply qa1);(try intro K hk);focus (simp only [lvX50_50,mkT,go_sem,Nat.reduceEqDiff,↓reduceIte,reduceCtorEq,encTks_len];first|exact rfl|((repeat refine ai ?_);intros;apply hk;clear hk K)))|apply qw1|refine qwc lvX50_50 ?_|apply qt1|apply qw5)
 refine s_loop (ι:=Nat×List Bs×Nat) (fun i=>[(4,.own 0),(5,.int .i64 i.2.2),(9,.seq (encTks l)),(10,.int .i64 l.length),(11,.int .i64 i.1)]) (fun i=>[(0,.row 9 1 (strs i.2.1.reverse))]) 1 (fun i=>i.1≤l.length∧i.2.1.length≤i.1∧i.2.2≤1000∧(∀ n ∈ i.2.1,n.length≤10)∧depF [] 0 l=depF i.2.1 i.2.2 (l.drop i.1)) (fun i=>l.length - i.1) (0,[],0) (by omega) (by dsimp only;exact ⟨Nat.zero_le _,Nat.zero_le _,Nat.zero_le _,(fun n hn=>by cases hn),rfl⟩) ?_ ?_
 · simp [fits,fitsT,fitsM,upd_def,PV.nmb,MB.nmb,strs]
 rintro ⟨k,st,m⟩ ⟨hk,hs,hm,hn,hd⟩
 dsimp only at hk hs hm hn hd
 simp only [mkS,mkT,mkM]
 have hrl:(strs st.reverse).length=st.length:=by simp [strs]
 by_cases hkl:k<l.length
 · obtain ⟨⟨kd,nm,v,ps⟩,hx⟩:=get_some (xs:=l) (k:=k) hkl
   have hsk:=smTk_at hsm hx
   obtain ⟨b1,b2,b3,b4⟩:=hsk
   dsimp only at b1 b2 b3 b4
   have hg:(encTks l)[k]?=some [.int .i64 kd,.str nm,.str v,.seq (encPrs ps)]:=by rw [encTks_get,hx];rfl
   rw [drop_tk hx] at hd
   by_cases k2:kd=2
   · subst k2
     cases hv:voidN nm with
     | false =>
       rw [dep_2 rfl hv] at hd
       have hnc: ∀ a ∈ nm::st,a.length≤10:=by
        intro a ha
        rcases List.mem_cons.1 ha with rfl|ha
        · exact b1
        · exact hn a ha
       have hmx:max (m:Int) ((st.length+1:Nat):Int)=((max m (st.length+1):Nat):Int):=by omega
       repeat' (first|((first|apply qwd|apply qa1|apply qa2|apply qh1|apply qg1 rfl|apply qcd);(try intro K hk);focus (simp only [lvX50_50,mkT,go_sem,Nat.reduceEqDiff,Nat.reduceAdd,Nat.reduceLeDiff,↓reduceIte,reduceCtorEq,hg,hv,hsl,hmx,strs_rev,List.length_reverse,List.length_cons,decide_true,decide_false,Int.reduceEq,Bool.not_false];first|exact rfl|((repeat refine ai ?_);intros;apply hk;clear hk K)))|apply qw1|refine qwc lvX50_50 ?_|apply qt1|apply qw5|apply qw2|apply qt4|apply qj1|apply qj4|apply qu1|(refine qj6 ?_ ?_<;>intro hc<;>(try simp only [hc])<;>(try simp only [decide_eq_true_eq,decide_eq_false_iff_not] at hc)<;>(try (exfalso;omega))))
       first
        | (refine s_againR ((k+1,nm::st,max m (st.length+1))) (fun i=>if i=0 then 1 else i) ?_ ?_ ?_ ?_ ?_ ?_<;>(first|omega|(dsimp only;omega)|(intro i hi;(try dsimp only);(repeat' split)<;>omega)|(intro i j hi hj h;(try dsimp only at h);(repeat' split at h)<;>omega)|skip)
           all_goals first|exact ⟨by dsimp only;omega,by dsimp only;(try simp only [List.length_cons]);omega,by dsimp only;omega,by dsimp only;assumption,by dsimp only;assumption⟩|(simp [fitsTR,PV.ren,upd_def,PV.nmb, *];done))
        | (refine s_againR ((k+1,nm::st,max m (st.length+1))) (fun i=>if i=0 then 2 else i) ?_ ?_ ?_ ?_ ?_ ?_<;>(first|omega|(dsimp only;omega)|(intro i hi;(try dsimp only);(repeat' split)<;>omega)|(intro i j hi hj h;(try dsimp only at h);(repeat' split at h)<;>omega)|skip)
           all_goals first|exact ⟨by dsimp only;omega,by dsimp only;(try simp only [List.length_cons]);omega,by dsimp only;omega,by dsimp only;assumption,by dsimp only;assumption⟩|(simp [fitsTR,PV.ren,upd_def,PV.nmb, *];done))
        | (refine s_againR ((k+1,nm::st,max m (st.length+1))) (fun i=>if i=0 then 3 else i) ?_ ?_ ?_ ?_ ?_ ?_<;>(first|omega|(dsimp only;omega)|(intro i hi;(try dsimp only);(repeat' split)<;>omega)|(intro i j hi hj h;(try dsimp only at h);(repeat' split at h)<;>omega)|skip)
           all_goals first|exact ⟨by dsimp only;omega,by dsimp only;(try simp only [List.length_cons]);omega,by dsimp only;omega,by dsimp only;assumption,by dsimp only;assumption⟩|(simp [fitsTR,fitsMR,PV.ren,MB.ren,upd_def,PV.nmb,MB.nmb, *];done))
        | (refine s_againR ((k+1,nm::st,max m (st.length+1))) (fun i=>if i=0 then 4 else i) ?_ ?_ ?_ ?_ ?_ ?_<;>(first|omega|(dsimp only;omega)|(intro i hi;(try dsimp only);(repeat' split)<;>omega)|(intro i j hi hj h;(try dsimp only at h);(repeat' split at h)<;>omega)|skip)
           all_goals first|exact ⟨by dsimp only;omega,by dsimp only;(try simp only [List.length_cons]);omega,by dsimp only;omega,by dsimp only;assumption,by dsimp only;assumption⟩|(simp [fitsTR,fitsMR,PV.ren,renL,MB.ren,upd_def,PV.nmb,nmbL,MB.nmb,List.getD_cons_zero,List.getD_cons_succ,frz,drp, *];done))
        | (refine s_againR ((k+1,nm::st,max m (st.length+1))) (fun i=>if i=0 then 5 else i) ?_ ?_ ?_ ?_ ?_ ?_<;>(first|omega|(dsimp only;omega)|(intro i hi;(try dsimp only);(repeat' split)<;>omega)|(intro i j hi hj h;(try dsimp only at h);(repeat' split at h)<;>omega)|skip)
           all_goals first|exact ⟨by dsimp only;omega,by dsimp only;(try simp only [List.length_cons]);omega,by dsimp only;omega,by dsimp only;assumption,by dsimp only;assumption⟩|(simp [fitsTR,fitsMR,PV.ren,renL,MB.ren,upd_def,PV.nmb,nmbL,MB.nmb,List.getD_cons_zero,List.getD_cons_succ,frz,drp, *];done))
     | true =>
       rw [dep_o (by show (2:Int)≠3;decide) (fun h=>by have h2:voidN nm=false:=h.2;rw [hv] at h2;cases h2)] at hd
       repeat' (first|((first|apply qwd|apply qa1|apply qa2|apply qh1|apply qg1 rfl|apply qcd);(try intro K hk);focus (simp only [lvX50_50,mkT,go_sem,Nat.reduceEqDiff,Nat.reduceAdd,Nat.reduceLeDiff,↓reduceIte,reduceCtorEq,hg,hv,decide_true,decide_false,Int.reduceEq,Bool.not_true];first|exact rfl|((repeat refine ai ?_);intros;apply hk;clear hk K)))|apply qw1|refine qwc lvX50_50 ?_|apply qt1|apply qw5|apply qw2|apply qt4|apply qj1|apply qj4|apply qu1|(refine qj6 ?_ ?_<;>intro hc<;>(try simp only [hc])<;>(try simp only [decide_eq_true_eq,decide_eq_false_iff_not] at hc)<;>(try (exfalso;omega))))
       refine s_again ((k+1,st,m)) ?_ ?_ ?_<;>(first|omega|(dsimp only;omega)|skip)
       · exact ⟨by dsimp only;omega,by dsimp only;omega,hm,hn,hd⟩
       · simp [fits,fitsT,fitsM,upd_def,PV.nmb,MB.nmb]
   by_cases k3:kd=3
   · subst k3
     rw [dep_3 rfl] at hd
     cases st with
     | nil =>
       repeat' (first|(refine s_draw 14 ?_ ?_;focus (decide +kernel))|(first|((first|apply qwd|apply qa1|apply qa2|apply qa3|apply qg1 rfl|apply qcd);(try intro K hk);focus (simp only [lvX50_50,mkT,go_sem,Nat.reduceEqDiff,Nat.reduceAdd,Nat.reduceLeDiff,↓reduceIte,reduceCtorEq,hg,hrl,hz0,List.length_nil,decide_true,decide_false,Int.reduceEq];first|exact rfl|((repeat refine ai ?_);intros;apply hk;clear hk K)))|apply qw8|apply qw1|refine qwc lvX50_50 ?_|apply qt1|apply qw5|apply qw2|apply qw9|apply qt3|apply qt6|apply qw4|apply qj1|apply qj3|apply qj4|apply qu1|apply qu2|(refine qj6 ?_ ?_<;>intro hc<;>(try simp only [hc])<;>(try simp only [decide_eq_true_eq,decide_eq_false_iff_not] at hc)<;>(try (exfalso;omega)))))
       ((first|refine fin_ret ?_|refine fin_end ?_);simp only [go_sem,↓upd_def,Nat.reduceEqDiff,↓reduceIte])
       refine K_eq hK ?_
       rw [hd]
       rfl
     | cons n q =>
       dsimp only at hd
       have hn1:=hn n List.mem_cons_self
       have hnc: ∀ a ∈ q,a.length≤10:=fun a ha=>hn a (List.mem_cons_of_mem _ ha)
       have htop:=strs_top n q
       have hpop:=strs_pop n q
       have htn:((q.length+1:Nat):Int) - 1=(q.length:Int):=by omega
       have hlz:decide (((q.length+1:Nat):Int)=0)=false:=decide_eq_false (by omega)
       rw [List.length_cons] at hrl hs
       have hql:q.length+1≤1000:=by omega
       by_cases hnn:n=nm
       · rw [if_pos hnn] at hd
         obtain rfl:nm=n:=hnn.symm
         repeat' (first|(refine s_draw 14 ?_ ?_;focus (decide +kernel))|(first|((first|apply qwd|apply qa1|apply qa2|apply qa3|apply qh2|apply qg1 rfl|apply qcd);(try intro K hk);focus (simp only [lvX50_50,mkT,go_sem,Nat.reduceEqDiff,Nat.reduceAdd,Nat.reduceLeDiff,↓reduceIte,reduceCtorEq,hg,hrl,htop,hpop,htn,hlz,Int.toNat_natCast,decide_true,decide_false,Int.reduceEq,Bool.not_true];first|exact rfl|((repeat refine ai ?_);intros;apply hk;clear hk K)))|apply qw8|apply qw1|refine qwc lvX50_50 ?_|apply qt1|apply qw5|apply qw2|apply qw9|apply qt4|apply qj1|apply qj2|apply qj4|apply qu1|apply qu2|(refine qj6 ?_ ?_<;>intro hc<;>(try simp only [hc])<;>(try simp only [decide_eq_true_eq,decide_eq_false_iff_not] at hc)<;>(try (exfalso;omega)))))
         first
          | (refine s_againR ((k+1,q,m)) (fun i=>if i=0 then 1 else i) ?_ ?_ ?_ ?_ ?_ ?_<;>(first|omega|(dsimp only;omega)|(intro i hi;(try dsimp only);(repeat' split)<;>omega)|(intro i j hi hj h;(try dsimp only at h);(repeat' split at h)<;>omega)|skip)
             all_goals first|exact ⟨by dsimp only;omega,by dsimp only;(try simp only [List.length_cons]);omega,by dsimp only;omega,by dsimp only;assumption,by dsimp only;assumption⟩|(simp [fitsTR,PV.ren,upd_def,PV.nmb, *];done))
          | (refine s_againR ((k+1,q,m)) (fun i=>if i=0 then 2 else i) ?_ ?_ ?_ ?_ ?_ ?_<;>(first|omega|(dsimp only;omega)|(intro i hi;(try dsimp only);(repeat' split)<;>omega)|(intro i j hi hj h;(try dsimp only at h);(repeat' split at h)<;>omega)|skip)
             all_goals first|exact ⟨by dsimp only;omega,by dsimp only;(try simp only [List.length_cons]);omega,by dsimp only;omega,by dsimp only;assumption,by dsimp only;assumption⟩|(simp [fitsTR,fitsMR,PV.ren,MB.ren,upd_def,PV.nmb,MB.nmb, *];done))
          | (refine s_againR ((k+1,q,m)) (fun i=>if i=0 then 3 else i) ?_ ?_ ?_ ?_ ?_ ?_<;>(first|omega|(dsimp only;omega)|(intro i hi;(try dsimp only);(repeat' split)<;>omega)|(intro i j hi hj h;(try dsimp only at h);(repeat' split at h)<;>omega)|skip)
             all_goals first|exact ⟨by dsimp only;omega,by dsimp only;(try simp only [List.length_cons]);omega,by dsimp only;omega,by dsimp only;assumption,by dsimp only;assumption⟩|(simp [fitsTR,fitsMR,PV.ren,renL,MB.ren,upd_def,PV.nmb,nmbL,MB.nmb,List.getD_cons_zero,List.getD_cons_succ,frz,drp, *];done))
          | (refine s_againR ((k+1,q,m)) (fun i=>if i=0 then 4 else i) ?_ ?_ ?_ ?_ ?_ ?_<;>(first|omega|(dsimp only;omega)|(intro i hi;(try dsimp only);(repeat' split)<;>omega)|(intro i j hi hj h;(try dsimp only at h);(repeat' split at h)<;>omega)|skip)
             all_goals first|exact ⟨by dsimp only;omega,by dsimp only;(try simp only [List.length_cons]);omega,by dsimp only;omega,by dsimp only;assumption,by dsimp only;assumption⟩|(simp [fitsTR,fitsMR,PV.ren,renL,MB.ren,upd_def,PV.nmb,nmbL,MB.nmb,List.getD_cons_zero,List.getD_cons_succ,frz,drp, *];done))
          | (refine s_againR ((k+1,q,m)) (fun i=>if i=0 then 5 else i) ?_ ?_ ?_ ?_ ?_ ?_<;>(first|omega|(dsimp only;omega)|(intro i hi;(try dsimp only);(repeat' split)<;>omega)|(intro i j hi hj h;(try dsimp only at h);(repeat' split at h)<;>omega)|skip)
             all_goals first|exact ⟨by dsimp only;omega,by dsimp only;(try simp only [List.length_cons]);omega,by dsimp only;omega,by dsimp only;assumption,by dsimp only;assumption⟩|(simp [fitsTR,fitsMR,PV.ren,renL,MB.ren,upd_def,PV.nmb,nmbL,MB.nmb,List.getD_cons_zero,List.getD_cons_succ,frz,drp, *];done))
       · rw [if_neg hnn] at hd
         repeat' (first|(refine s_draw 14 ?_ ?_;focus (decide +kernel))|(first|((first|apply qwd|apply qa1|apply qa2|apply qa3|apply qh2|apply qg1 rfl|apply qcd);(try intro K hk);focus (simp only [lvX50_50,mkT,go_sem,Nat.reduceEqDiff,Nat.reduceAdd,Nat.reduceLeDiff,↓reduceIte,reduceCtorEq,hg,hrl,htop,htn,hlz,hnn,Int.toNat_natCast,decide_true,decide_false,Int.reduceEq,Bool.not_false];first|exact rfl|((repeat refine ai ?_);intros;apply hk;clear hk K)))|apply qw8|apply qw1|refine qwc lvX50_50 ?_|apply qt1|apply qw5|apply qw2|apply qw9|apply qt3|apply qt6|apply qw4|apply qj1|apply qj2|apply qj4|apply qu1|apply qu2|(refine qj6 ?_ ?_<;>intro hc<;>(try simp only [hc])<;>(try simp only [decide_eq_true_eq,decide_eq_false_iff_not] at hc)<;>(try (exfalso;omega)))))
         ((first|refine fin_ret ?_|refine fin_end ?_);simp only [go_sem,↓upd_def,Nat.reduceEqDiff,↓reduceIte])
         refine K_eq hK ?_
         rw [hd]
         rfl
   · rw [dep_o k3 (fun h=>k2 h.1)] at hd
     repeat' (first|((first|apply qwd|apply qa1|apply qa2|apply qg1 rfl|apply qcd);(try intro K hk);focus (simp only [lvX50_50,mkT,go_sem,Nat.reduceEqDiff,Nat.reduceAdd,Nat.reduceLeDiff,↓reduceIte,reduceCtorEq,hg,k2,k3,decide_false];first|exact rfl|((repeat refine ai ?_);intros;apply hk;clear hk K)))|apply qw1|refine qwc lvX50_50 ?_|apply qt1|apply qw5|apply qw2|apply qt4|apply qj1|apply qj4|apply qu1|(refine qj6 ?_ ?_<;>intro hc<;>(try simp only [hc])<;>(try simp only [decide_eq_true_eq,decide_eq_false_iff_not] at hc)<;>(try (exfalso;omega))))
     refine s_again ((k+1,st,m)) ?_ ?_ ?_<;>(first|omega|(dsimp only;omega)|skip)
     · exact ⟨by dsimp only;omega,by dsimp only;omega,hm,hn,hd⟩
     · simp [fits,fitsT,fitsM,upd_def,PV.nmb,MB.nmb]
 · obtain rfl:k=l.length:=by omega
   rw [List.drop_length,dep_nil] at hd
   repeat' (first|((first|apply qwd|apply qa1|apply qcd);(try intro K hk);focus (simp only [lvX50_50,mkT,go_sem,Nat.reduceEqDiff,↓reduceIte,hrl];first|exact rfl|((repeat refine ai ?_);intros;apply hk;clear hk K)))|apply qw1|refine qwc lvX50_50 ?_|apply qt1|apply qt2|apply qt5|apply qw3|apply qw4|apply qj4|(refine qj6 ?_ ?_<;>intro hc<;>(try simp only [hc])<;>(try simp only [decide_eq_true_eq,decide_eq_false_iff_not] at hc)<;>(try (exfalso;omega))))
   ((first|refine fin_ret ?_|refine fin_end ?_);simp only [go_sem,↓upd_def,Nat.reduceEqDiff,↓reduceIte])
   refine K_eq hK ?_
   rw [hd]
   cases st<;>simp<;>omega
end Go.Proofs.Ytnbjogilidfkdaa

/- Contracts: balanced tokens. -/
namespace Go.Proofs.Ytnbjogilidfkdaa
attribute [local irreducible] awp arun acalm FinP Fin AX.then AX.inBlock Again aG gsel amix amixN amixC aop aopc aopd cutK
attribute [local go_sem] aBSliceD aSlice aSliceC boundOf aMk aCall aCallC aLenL aLen aPick_t aPick_f aNil aAlloc aBox aBuild bldPV aBSlice bsPV aApp newsOf destOf drp aConvX aConv aConvInt aLoad cellsAt aStore cellsPV setAt aFld aField aIdx aIndex aUn aBin' aBin aMax aExtract pvOf PV.isCell nmbL PV.nmb List.map_cons List.map_nil List.all_cons List.all_nil Bool.and_true Bool.true_and if_true if_false List.getD_cons_zero List.getD_cons_succ List.getD_nil Option.isSome_some true_and and_true and_self eq_self true_or or_true List.drop_zero List.drop_succ_cons List.drop_nil List.take_zero List.take_succ_cons List.take_nil List.length_cons List.length_nil List.length_map Option.getD_some Option.getD_none List.nil_append List.cons_append List.append_nil Option.some.injEq exists_eq_left' List.getElem?_cons_zero List.getElem?_cons_succ Int.toNat_natCast Int.natCast_inj toNat_succ Nat.zero_add res res1 resC owns owns1 ownsC List.flatMap_cons List.flatMap_nil List.flatten_cons List.flatten_nil List.mem_cons List.not_mem_nil or_false false_or forall_eq forall_eq_or_imp isFro frz frz1 pureC tabA isBld List.cons.injEq PV.seq.injEq PV.int.injEq PV.str.injEq PV.bool.injEq PV.agg.injEq inR tab Γof aRes packR Option.map_some Option.map_none rel Prod.exists exists_and_left exists_eq_left and_assoc beq_self_eq_true Bool.not_true Bool.not_false decide_true decide_false List.set_cons_zero List.set_cons_succ rst_nil rst_cons
attribute [local go_sem ↓] evT upd_def aop aopc aopd
set_option maxRecDepth 100000
set_option linter.unusedVariables false
set_option linter.unusedSimpArgs false
open Go.RowKit
def lvX51_18:Nat→List Nat
 | 0=>[0]
 | 1=>[4]
 | 2=>[2]
 | _=>[]
--LV=X51
theorem ba_i:PureOk Try.prog 18 balC:=by
 refine pure_rel 1 (tab_cons dep_i tab_nil) mixed [.tmp 2] Try.func18 rfl rfl (by kernel_rfl) (by kernel_rfl) (fun _=>rfl) (by kernel_rfl) ?_
 rintro l K hsm hK
 have hb:=dep_bal l [] 0
 unfold entry
 repeat' (first|((first|apply qwd|apply qa1);(try intro K hk);focus (simp only [lvX51_18,mkT,go_sem,Nat.reduceEqDiff,↓reduceIte,reduceCtorEq,encTks_iff];first|exact rfl|((repeat refine ai ?_);intros;apply hk;clear hk K)))|apply qw1|refine qwc lvX51_18 ?_|apply qt1|apply qw4)
 ((first|refine fin_ret ?_|refine fin_end ?_);simp only [go_sem,↓upd_def,↓reduceIte])
 rw [hb]
 exact hK
end Go.Proofs.Ytnbjogilidfkdaa
