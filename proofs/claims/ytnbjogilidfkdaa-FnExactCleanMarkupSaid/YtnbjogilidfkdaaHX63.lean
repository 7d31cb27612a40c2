/- Contracts: what a text is divided into (the reference's reading). -/
import Derived.Test.YtnbjogilidfkdaaHX63A
import Derived.Test.YtnbjogilidfkdaaHX63D
import Derived.Test.YtnbjogilidfkdaaHX53A

namespace Go.Proofs.Ytnbjogilidfkdaa
attribute [local irreducible] awp arun acalm FinP Fin AX.then AX.inBlock Again aG gsel amix amixN amixC aop aopc aopd cutK
attribute [local go_sem] aBSliceD aSlice aSliceC boundOf aMk aCall aCallC aLenL aLen aPick_t aPick_f aNil aAlloc aBox aBuild bldPV aBSlice bsPV aApp newsOf destOf drp aConvX aConv aConvInt aLoad cellsAt aStore cellsPV setAt aFld aField aIdx aIndex aUn aBin' aBin aMax aExtract pvOf PV.isCell nmbL PV.nmb List.map_cons List.map_nil List.all_cons List.all_nil Bool.and_true Bool.true_and if_true if_false List.getD_cons_zero List.getD_cons_succ List.getD_nil Option.isSome_some true_and and_true and_self eq_self true_or or_true List.drop_zero List.drop_succ_cons List.drop_nil List.take_zero List.take_succ_cons List.take_nil List.length_cons List.length_nil List.length_map Option.getD_some Option.getD_none List.nil_append List.cons_append List.append_nil Option.some.injEq exists_eq_left' List.getElem?_cons_zero List.getElem?_cons_succ Int.toNat_natCast Int.natCast_inj toNat_succ Nat.zero_add res res1 resC owns owns1 ownsC List.flatMap_cons List.flatMap_nil List.flatten_cons List.flatten_nil List.mem_cons List.not_mem_nil or_false false_or forall_eq forall_eq_or_imp isFro frz frz1 pureC tabA isBld List.cons.injEq PV.seq.injEq PV.int.injEq PV.str.injEq PV.bool.injEq PV.agg.injEq inR tab Γof aRes packR Option.map_some Option.map_none rel Prod.exists exists_and_left exists_eq_left and_assoc beq_self_eq_true Bool.not_true Bool.not_false decide_true decide_false List.set_cons_zero List.set_cons_succ rst_nil rst_cons
attribute [local go_sem ↓] evT upd_def aop aopc aopd
set_option maxRecDepth 100000
set_option linter.unusedVariables false
set_option linter.unusedSimpArgs false
open Go.RowKit
def lvX63_59:Nat→List Nat
 | 0=>[0]
 | 1=>[0,4]
 | 2=>[0,4,5]
 | 3=>[0,4,5,6]
 | 4=>[0,4,5,6,7]
 | 5=>[0,4,5,6,7,8]
 | 6=>[0,4,5,6,7,8,17]
 | 7=>[0,4,5,6,7,8]
 | 8=>[0,4,5,6,7,8,9]
 | 9=>[0,4,5,6,7,8,9,10]
 | 10=>[0,4,5,6,7,8,9,10,30]
 | 11=>[0,4,5,8,9]
 | 12=>[0,4,5,6,8,9]
 | 13=>[0,4,5,6,7,8,9]
 | 14=>[0,4,5,6,7,8,9,10,45]
 | 15=>[0,4,5,7,8,9]
 | 16=>[0,4,5,6,7,8,9]
 | 17=>[0,4,5,6,7,8,9,10,59]
 | 18=>[0,4,5,7,8,9]
 | 19=>[0,4,5,6,7,8,9]
 | 20=>[0,4,5,6,7,8,9,10,74]
 | 21=>[0,4,5,7,8,9]
 | 22=>[0,4,5,7,8,9]
 | 23=>[0,4,5,6,7,8,9]
 | 24=>[0,4,5,6,7,8,9,10,99]
 | 25=>[0,4,5,7,8,9]
 | 26=>[0,4,5,6,7,8,9]
 | 27=>[0,4,5,6,7,8,9,10,112]
 | 28=>[0,4,5,7,8,9]
 | 29=>[0,4,5,6,7,8,9]
 | 30=>[0,4,5,6,7,8,9,10,129]
 | 31=>[0,4,5,6,7,8,9]
 | 32=>[0,4,5,6,7,8]
 | 33=>[0,4,5,6,7,8,158]
 | 34=>[2,3]
 | 35=>[0,4,5]
 | 36=>[4,177]
 | 37=>[2,3]
 | 38=>[2,3]
 | _=>[]
--LV=X63
@[go_sem] def tksC:PC:=rel (α:=Bs) (fun x=>[.str x]) (fun x=>x.length≤1048576) (fun x=> .tup [.seq (encTks ((tokM x).getD [])),.bool (tokM x).isSome])
set_option maxHeartbeats 40000000 in
theorem tok_s:PureOk Try.prog 59 tksC:=by
 refine pure_relA 1 (tabA_cons put6_ok (tabA_nil (Γof_ok (tab_cons text_s (tab_cons step_s (tab_cons un_s (tab_cons in_s (tab_cons cl6_s tab_nil)))))))) (tab_cons text_s (tab_cons step_s (tab_cons un_s (tab_cons in_s (tab_cons cl6_s tab_nil))))) mixed [.tmp 2,.tmp 3] Try.func59 rfl rfl (by kernel_rfl) (by kernel_rfl) (fun _=>rfl) (by kernel_rfl) ?_
 rintro s K hsl hK
 unfold entry
 repeat' (first|((first|apply qwd|apply qa1|apply qa2|apply qa3|apply qh1|apply qh2|apply qg1 rfl|apply qcd);(try intro K hk);focus (simp only [lvX63_59,mkT,go_sem,Nat.reduceEqDiff,Nat.reduceAdd,Nat.reduceLeDiff,Nat.reduceLT,Nat.reduceSub,Int.reduceToNat,↓reduceIte,reduceCtorEq];first|exact rfl|((repeat refine ai ?_);intros;apply hk;clear hk K)))|apply qw8|apply qw1|refine qwc lvX63_59 ?_|apply qt1|apply qw5|apply qw2|apply qw9|apply qt2|apply qt3|apply qt4|apply qt5|apply qt6|apply qw3|apply qw4|apply qj1|apply qj2|apply qj3|apply qj4|apply qj5|apply qu1|apply qu2|(refine qj6 ?_ ?_<;>intro hc<;>(try simp only [hc])<;>(try simp only [decide_eq_true_eq,decide_eq_false_iff_not,Bool.not_eq_true',Bool.not_eq_false',Bool.not_eq_true,reduceCtorEq] at hc)<;>(try (exfalso;omega)))|(refine qt7 ?_ ?_;focus decide)|(refine qw7 ?_ ?_ ?_;(focus (decide +kernel));(focus (decide +kernel))))
 refine s_loop (T63 s) M63 3 (good63 s) (mu63 s) (0,ts0,true) (by omega) (by unfold good63;exact ⟨Nat.zero_le _,TsAt.zero s,fun _=>rfl⟩) ?_ ?_
 · simp [T63,M63,fits,fitsT,fitsM,upd_def,PV.nmb,nmbL,MB.nmb,List.getD_cons_zero,List.getD_cons_succ,ts0,st0,encS_mk,encTks_nil]
 rintro ⟨k,x,pb⟩ ⟨hk,hx,hpb⟩
 dsimp only at hk hx hpb
 by_cases hkl:k<s.length
 · have hm0:=step_modes hx.v (s.getD k 0)
   have hv:=hx.v
   obtain ⟨⟨m,tg,ta,ts⟩,buf,ps,out⟩:=x
   dsimp only at hm0 hv hpb
   generalize hb:s.getD k 0=b at *
   have hsn:=step_seen (b:=b) hv rfl
   have hvn:=stV_step ⟨m,tg,ta,ts⟩ b
   generalize hn:step ⟨m,tg,ta,ts⟩ b=nn at *
   obtain ⟨n,ng,na,ns⟩:=nn
   dsimp only at hm0 hsn
   have hs1:ns=true→6≤n∧n≤8:=by
    intro h
    rw [hsn] at h
    split at h
    · omega
    · have:=of_decide_eq_true h
      omega
   have hmo:=modes hv
   dsimp only at hmo
   have hfin:tokM s=none→ ∀ σ j,σ.tmp 2= .own j→σ.mem j=some (.row 29 4 [])→σ.tmp 3= .bool false→FinP Try.prog [.tmp 2,.tmp 3] K .ret σ:=by
    intro e σ j h1 h2 h3
    obtain ⟨τ,mm,nx⟩:=σ
    dsimp only at h1 h2 h3
    rw [e] at hK
    refine fin_ret ?_
    simp only [go_sem,h1,h2,h3,not_false_eq_true,ne_eq,↓upd_def,Nat.reduceEqDiff,Nat.reduceAdd,↓reduceIte,reduceCtorEq]
    exact hK
   clear hsn
   cases ns with
   | true =>
     obtain ⟨q1,q2⟩:=hs1 rfl
     clear hs1
     rcases hm0 with hm1|⟨hm1,_⟩|⟨hm1,_⟩|⟨hm1,_⟩|⟨hm1,_⟩|⟨hm1,_⟩|⟨hm1,_⟩|⟨hm1,_⟩|⟨hm1,_⟩|⟨hm1,_⟩|⟨hm1,h|h⟩|⟨hm1,h|h⟩|⟨hm1,h|h|h⟩|⟨hm1,h⟩|⟨hm1,h⟩|⟨hm1,h⟩
     all_goals first
      | (exfalso;omega)
      | (refine w63_7e hsl hkl hb hn hx hpb ?_ (by omega) (by omega) rfl;intro e σ j h1 h2 h3;have hh:=hfin e σ j h1 h2 h3;obtain ⟨τ,mm,nx⟩:=σ;(repeat' (first|((first|apply qwd|apply qa1|apply qa2|apply qa3|apply qh1|apply qh2|apply qg1 rfl|apply qcd);(try intro K hk);focus (simp only [lvX63_59,mkT,go_sem,Nat.reduceEqDiff,Nat.reduceAdd,Nat.reduceLeDiff,Nat.reduceLT,Nat.reduceSub,Int.reduceToNat,↓reduceIte,reduceCtorEq];first|exact rfl|((repeat refine ai ?_);intros;apply hk;clear hk K)))|apply qw8|apply qw1|refine qwc lvX63_59 ?_|apply qt1|apply qw5|apply qw2|apply qw9|apply qt2|apply qt3|apply qt4|apply qt5|apply qt6|apply qw3|apply qw4|apply qj1|apply qj2|apply qj3|apply qj4|apply qj5|apply qu1|apply qu2|(refine qj6 ?_ ?_<;>intro hc<;>(try simp only [hc])<;>(try simp only [decide_eq_true_eq,decide_eq_false_iff_not,Bool.not_eq_true',Bool.not_eq_false',Bool.not_eq_true,reduceCtorEq] at hc)<;>(try (exfalso;omega)))|(refine qt7 ?_ ?_;focus decide)|(refine qw7 ?_ ?_ ?_;(focus (decide +kernel));(focus (decide +kernel)))));exact hh)
   | false =>
     clear hs1
     clear hm0
     have hm1:m=0∨m=1∨(2≤m∧m≤8)∨m=9∨m=10∨(11≤m∧m≤13)∨m=14∨m=15:=by omega
     rcases hm1 with hm1|hm1|hm1|hm1|hm1|hm1|hm1|hm1
     · by_cases hn1:n=1
       · refine w63_1 hsl hkl hb hn hx hpb ?_ (by omega) (by omega)
         intro e σ j h1 h2 h3;have hh:=hfin e σ j h1 h2 h3;obtain ⟨τ,mm,nx⟩:=σ;(repeat' (first|((first|apply qwd|apply qa1|apply qa2|apply qa3|apply qh1|apply qh2|apply qg1 rfl|apply qcd);(try intro K hk);focus (simp only [lvX63_59,mkT,go_sem,Nat.reduceEqDiff,Nat.reduceAdd,Nat.reduceLeDiff,Nat.reduceLT,Nat.reduceSub,Int.reduceToNat,↓reduceIte,reduceCtorEq];first|exact rfl|((repeat refine ai ?_);intros;apply hk;clear hk K)))|apply qw8|apply qw1|refine qwc lvX63_59 ?_|apply qt1|apply qw5|apply qw2|apply qw9|apply qt2|apply qt3|apply qt4|apply qt5|apply qt6|apply qw3|apply qw4|apply qj1|apply qj2|apply qj3|apply qj4|apply qj5|apply qu1|apply qu2|(refine qj6 ?_ ?_<;>intro hc<;>(try simp only [hc])<;>(try simp only [decide_eq_true_eq,decide_eq_false_iff_not,Bool.not_eq_true',Bool.not_eq_false',Bool.not_eq_true,reduceCtorEq] at hc)<;>(try (exfalso;omega)))|(refine qt7 ?_ ?_;focus decide)|(refine qw7 ?_ ?_ ?_;(focus (decide +kernel));(focus (decide +kernel)))));exact hh
       · refine w63_7a hsl hkl hb hn hx hpb ?_ (by omega) (by omega)
         intro e σ j h1 h2 h3;have hh:=hfin e σ j h1 h2 h3;obtain ⟨τ,mm,nx⟩:=σ;(repeat' (first|((first|apply qwd|apply qa1|apply qa2|apply qa3|apply qh1|apply qh2|apply qg1 rfl|apply qcd);(try intro K hk);focus (simp only [lvX63_59,mkT,go_sem,Nat.reduceEqDiff,Nat.reduceAdd,Nat.reduceLeDiff,Nat.reduceLT,Nat.reduceSub,Int.reduceToNat,↓reduceIte,reduceCtorEq];first|exact rfl|((repeat refine ai ?_);intros;apply hk;clear hk K)))|apply qw8|apply qw1|refine qwc lvX63_59 ?_|apply qt1|apply qw5|apply qw2|apply qw9|apply qt2|apply qt3|apply qt4|apply qt5|apply qt6|apply qw3|apply qw4|apply qj1|apply qj2|apply qj3|apply qj4|apply qj5|apply qu1|apply qu2|(refine qj6 ?_ ?_<;>intro hc<;>(try simp only [hc])<;>(try simp only [decide_eq_true_eq,decide_eq_false_iff_not,Bool.not_eq_true',Bool.not_eq_false',Bool.not_eq_true,reduceCtorEq] at hc)<;>(try (exfalso;omega)))|(refine qt7 ?_ ?_;focus decide)|(refine qw7 ?_ ?_ ?_;(focus (decide +kernel));(focus (decide +kernel)))));exact hh
     · refine w63_8a hsl hkl hb hn hx hpb ?_ (by omega) rfl
       intro e σ j h1 h2 h3;have hh:=hfin e σ j h1 h2 h3;obtain ⟨τ,mm,nx⟩:=σ;(repeat' (first|((first|apply qwd|apply qa1|apply qa2|apply qa3|apply qh1|apply qh2|apply qg1 rfl|apply qcd);(try intro K hk);focus (simp only [lvX63_59,mkT,go_sem,Nat.reduceEqDiff,Nat.reduceAdd,Nat.reduceLeDiff,Nat.reduceLT,Nat.reduceSub,Int.reduceToNat,↓reduceIte,reduceCtorEq];first|exact rfl|((repeat refine ai ?_);intros;apply hk;clear hk K)))|apply qw8|apply qw1|refine qwc lvX63_59 ?_|apply qt1|apply qw5|apply qw2|apply qw9|apply qt2|apply qt3|apply qt4|apply qt5|apply qt6|apply qw3|apply qw4|apply qj1|apply qj2|apply qj3|apply qj4|apply qj5|apply qu1|apply qu2|(refine qj6 ?_ ?_<;>intro hc<;>(try simp only [hc])<;>(try simp only [decide_eq_true_eq,decide_eq_false_iff_not,Bool.not_eq_true',Bool.not_eq_false',Bool.not_eq_true,reduceCtorEq] at hc)<;>(try (exfalso;omega)))|(refine qt7 ?_ ?_;focus decide)|(refine qw7 ?_ ?_ ?_;(focus (decide +kernel));(focus (decide +kernel)))));exact hh
     · by_cases hn1:n=0
       · refine w63_4 hsl hkl hb hn hx hpb ?_ (by omega) (by omega)
         intro e σ j h1 h2 h3;have hh:=hfin e σ j h1 h2 h3;obtain ⟨τ,mm,nx⟩:=σ;(repeat' (first|((first|apply qwd|apply qa1|apply qa2|apply qa3|apply qh1|apply qh2|apply qg1 rfl|apply qcd);(try intro K hk);focus (simp only [lvX63_59,mkT,go_sem,Nat.reduceEqDiff,Nat.reduceAdd,Nat.reduceLeDiff,Nat.reduceLT,Nat.reduceSub,Int.reduceToNat,↓reduceIte,reduceCtorEq];first|exact rfl|((repeat refine ai ?_);intros;apply hk;clear hk K)))|apply qw8|apply qw1|refine qwc lvX63_59 ?_|apply qt1|apply qw5|apply qw2|apply qw9|apply qt2|apply qt3|apply qt4|apply qt5|apply qt6|apply qw3|apply qw4|apply qj1|apply qj2|apply qj3|apply qj4|apply qj5|apply qu1|apply qu2|(refine qj6 ?_ ?_<;>intro hc<;>(try simp only [hc])<;>(try simp only [decide_eq_true_eq,decide_eq_false_iff_not,Bool.not_eq_true',Bool.not_eq_false',Bool.not_eq_true,reduceCtorEq] at hc)<;>(try (exfalso;omega)))|(refine qt7 ?_ ?_;focus decide)|(refine qw7 ?_ ?_ ?_;(focus (decide +kernel));(focus (decide +kernel)))));exact hh
       by_cases hn2:n=11
       · refine w63_4b hsl hkl hb hn hx hpb ?_ (by omega) (by omega)
         intro e σ j h1 h2 h3;have hh:=hfin e σ j h1 h2 h3;obtain ⟨τ,mm,nx⟩:=σ;(repeat' (first|((first|apply qwd|apply qa1|apply qa2|apply qa3|apply qh1|apply qh2|apply qg1 rfl|apply qcd);(try intro K hk);focus (simp only [lvX63_59,mkT,go_sem,Nat.reduceEqDiff,Nat.reduceAdd,Nat.reduceLeDiff,Nat.reduceLT,Nat.reduceSub,Int.reduceToNat,↓reduceIte,reduceCtorEq];first|exact rfl|((repeat refine ai ?_);intros;apply hk;clear hk K)))|apply qw8|apply qw1|refine qwc lvX63_59 ?_|apply qt1|apply qw5|apply qw2|apply qw9|apply qt2|apply qt3|apply qt4|apply qt5|apply qt6|apply qw3|apply qw4|apply qj1|apply qj2|apply qj3|apply qj4|apply qj5|apply qu1|apply qu2|(refine qj6 ?_ ?_<;>intro hc<;>(try simp only [hc])<;>(try simp only [decide_eq_true_eq,decide_eq_false_iff_not,Bool.not_eq_true',Bool.not_eq_false',Bool.not_eq_true,reduceCtorEq] at hc)<;>(try (exfalso;omega)))|(refine qt7 ?_ ?_;focus decide)|(refine qw7 ?_ ?_ ?_;(focus (decide +kernel));(focus (decide +kernel)))));exact hh
       by_cases hn3:n=3
       · refine w63_5 hsl hkl hb hn hx hpb ?_ (by omega) (by omega)
         intro e σ j h1 h2 h3;have hh:=hfin e σ j h1 h2 h3;obtain ⟨τ,mm,nx⟩:=σ;(repeat' (first|((first|apply qwd|apply qa1|apply qa2|apply qa3|apply qh1|apply qh2|apply qg1 rfl|apply qcd);(try intro K hk);focus (simp only [lvX63_59,mkT,go_sem,Nat.reduceEqDiff,Nat.reduceAdd,Nat.reduceLeDiff,Nat.reduceLT,Nat.reduceSub,Int.reduceToNat,↓reduceIte,reduceCtorEq];first|exact rfl|((repeat refine ai ?_);intros;apply hk;clear hk K)))|apply qw8|apply qw1|refine qwc lvX63_59 ?_|apply qt1|apply qw5|apply qw2|apply qw9|apply qt2|apply qt3|apply qt4|apply qt5|apply qt6|apply qw3|apply qw4|apply qj1|apply qj2|apply qj3|apply qj4|apply qj5|apply qu1|apply qu2|(refine qj6 ?_ ?_<;>intro hc<;>(try simp only [hc])<;>(try simp only [decide_eq_true_eq,decide_eq_false_iff_not,Bool.not_eq_true',Bool.not_eq_false',Bool.not_eq_true,reduceCtorEq] at hc)<;>(try (exfalso;omega)))|(refine qt7 ?_ ?_;focus decide)|(refine qw7 ?_ ?_ ?_;(focus (decide +kernel));(focus (decide +kernel)))));exact hh
       · refine w63_8c hsl hkl hb hn hx hpb ?_ (by omega) (by omega) rfl
         intro e σ j h1 h2 h3;have hh:=hfin e σ j h1 h2 h3;obtain ⟨τ,mm,nx⟩:=σ;(repeat' (first|((first|apply qwd|apply qa1|apply qa2|apply qa3|apply qh1|apply qh2|apply qg1 rfl|apply qcd);(try intro K hk);focus (simp only [lvX63_59,mkT,go_sem,Nat.reduceEqDiff,Nat.reduceAdd,Nat.reduceLeDiff,Nat.reduceLT,Nat.reduceSub,Int.reduceToNat,↓reduceIte,reduceCtorEq];first|exact rfl|((repeat refine ai ?_);intros;apply hk;clear hk K)))|apply qw8|apply qw1|refine qwc lvX63_59 ?_|apply qt1|apply qw5|apply qw2|apply qw9|apply qt2|apply qt3|apply qt4|apply qt5|apply qt6|apply qw3|apply qw4|apply qj1|apply qj2|apply qj3|apply qj4|apply qj5|apply qu1|apply qu2|(refine qj6 ?_ ?_<;>intro hc<;>(try simp only [hc])<;>(try simp only [decide_eq_true_eq,decide_eq_false_iff_not,Bool.not_eq_true',Bool.not_eq_false',Bool.not_eq_true,reduceCtorEq] at hc)<;>(try (exfalso;omega)))|(refine qt7 ?_ ?_;focus decide)|(refine qw7 ?_ ?_ ?_;(focus (decide +kernel));(focus (decide +kernel)))));exact hh
     · by_cases hn1:n=0
       · refine w63_3 hsl hkl hb hn hx hpb ?_ (by omega) (by omega)
         intro e σ j h1 h2 h3;have hh:=hfin e σ j h1 h2 h3;obtain ⟨τ,mm,nx⟩:=σ;(repeat' (first|((first|apply qwd|apply qa1|apply qa2|apply qa3|apply qh1|apply qh2|apply qg1 rfl|apply qcd);(try intro K hk);focus (simp only [lvX63_59,mkT,go_sem,Nat.reduceEqDiff,Nat.reduceAdd,Nat.reduceLeDiff,Nat.reduceLT,Nat.reduceSub,Int.reduceToNat,↓reduceIte,reduceCtorEq];first|exact rfl|((repeat refine ai ?_);intros;apply hk;clear hk K)))|apply qw8|apply qw1|refine qwc lvX63_59 ?_|apply qt1|apply qw5|apply qw2|apply qw9|apply qt2|apply qt3|apply qt4|apply qt5|apply qt6|apply qw3|apply qw4|apply qj1|apply qj2|apply qj3|apply qj4|apply qj5|apply qu1|apply qu2|(refine qj6 ?_ ?_<;>intro hc<;>(try simp only [hc])<;>(try simp only [decide_eq_true_eq,decide_eq_false_iff_not,Bool.not_eq_true',Bool.not_eq_false',Bool.not_eq_true,reduceCtorEq] at hc)<;>(try (exfalso;omega)))|(refine qt7 ?_ ?_;focus decide)|(refine qw7 ?_ ?_ ?_;(focus (decide +kernel));(focus (decide +kernel)))));exact hh
       · refine w63_8b hsl hkl hb hn hx hpb ?_ (by omega) (by omega) rfl
         intro e σ j h1 h2 h3;have hh:=hfin e σ j h1 h2 h3;obtain ⟨τ,mm,nx⟩:=σ;(repeat' (first|((first|apply qwd|apply qa1|apply qa2|apply qa3|apply qh1|apply qh2|apply qg1 rfl|apply qcd);(try intro K hk);focus (simp only [lvX63_59,mkT,go_sem,Nat.reduceEqDiff,Nat.reduceAdd,Nat.reduceLeDiff,Nat.reduceLT,Nat.reduceSub,Int.reduceToNat,↓reduceIte,reduceCtorEq];first|exact rfl|((repeat refine ai ?_);intros;apply hk;clear hk K)))|apply qw8|apply qw1|refine qwc lvX63_59 ?_|apply qt1|apply qw5|apply qw2|apply qw9|apply qt2|apply qt3|apply qt4|apply qt5|apply qt6|apply qw3|apply qw4|apply qj1|apply qj2|apply qj3|apply qj4|apply qj5|apply qu1|apply qu2|(refine qj6 ?_ ?_<;>intro hc<;>(try simp only [hc])<;>(try simp only [decide_eq_true_eq,decide_eq_false_iff_not,Bool.not_eq_true',Bool.not_eq_false',Bool.not_eq_true,reduceCtorEq] at hc)<;>(try (exfalso;omega)))|(refine qt7 ?_ ?_;focus decide)|(refine qw7 ?_ ?_ ?_;(focus (decide +kernel));(focus (decide +kernel)))));exact hh
     · by_cases hn1:n=0
       · refine w63_2 hsl hkl hb hn hx hpb ?_ (by omega) (by omega)
         intro e σ j h1 h2 h3;have hh:=hfin e σ j h1 h2 h3;obtain ⟨τ,mm,nx⟩:=σ;(repeat' (first|((first|apply qwd|apply qa1|apply qa2|apply qa3|apply qh1|apply qh2|apply qg1 rfl|apply qcd);(try intro K hk);focus (simp only [lvX63_59,mkT,go_sem,Nat.reduceEqDiff,Nat.reduceAdd,Nat.reduceLeDiff,Nat.reduceLT,Nat.reduceSub,Int.reduceToNat,↓reduceIte,reduceCtorEq];first|exact rfl|((repeat refine ai ?_);intros;apply hk;clear hk K)))|apply qw8|apply qw1|refine qwc lvX63_59 ?_|apply qt1|apply qw5|apply qw2|apply qw9|apply qt2|apply qt3|apply qt4|apply qt5|apply qt6|apply qw3|apply qw4|apply qj1|apply qj2|apply qj3|apply qj4|apply qj5|apply qu1|apply qu2|(refine qj6 ?_ ?_<;>intro hc<;>(try simp only [hc])<;>(try simp only [decide_eq_true_eq,decide_eq_false_iff_not,Bool.not_eq_true',Bool.not_eq_false',Bool.not_eq_true,reduceCtorEq] at hc)<;>(try (exfalso;omega)))|(refine qt7 ?_ ?_;focus decide)|(refine qw7 ?_ ?_ ?_;(focus (decide +kernel));(focus (decide +kernel)))));exact hh
       · refine w63_7b hsl hkl hb hn hx hpb ?_ (by omega) (by omega)
         intro e σ j h1 h2 h3;have hh:=hfin e σ j h1 h2 h3;obtain ⟨τ,mm,nx⟩:=σ;(repeat' (first|((first|apply qwd|apply qa1|apply qa2|apply qa3|apply qh1|apply qh2|apply qg1 rfl|apply qcd);(try intro K hk);focus (simp only [lvX63_59,mkT,go_sem,Nat.reduceEqDiff,Nat.reduceAdd,Nat.reduceLeDiff,Nat.reduceLT,Nat.reduceSub,Int.reduceToNat,↓reduceIte,reduceCtorEq];first|exact rfl|((repeat refine ai ?_);intros;apply hk;clear hk K)))|apply qw8|apply qw1|refine qwc lvX63_59 ?_|apply qt1|apply qw5|apply qw2|apply qw9|apply qt2|apply qt3|apply qt4|apply qt5|apply qt6|apply qw3|apply qw4|apply qj1|apply qj2|apply qj3|apply qj4|apply qj5|apply qu1|apply qu2|(refine qj6 ?_ ?_<;>intro hc<;>(try simp only [hc])<;>(try simp only [decide_eq_true_eq,decide_eq_false_iff_not,Bool.not_eq_true',Bool.not_eq_false',Bool.not_eq_true,reduceCtorEq] at hc)<;>(try (exfalso;omega)))|(refine qt7 ?_ ?_;focus decide)|(refine qw7 ?_ ?_ ?_;(focus (decide +kernel));(focus (decide +kernel)))));exact hh
     · refine w63_7c hsl hkl hb hn hx hpb ?_ (by omega)
       intro e σ j h1 h2 h3;have hh:=hfin e σ j h1 h2 h3;obtain ⟨τ,mm,nx⟩:=σ;(repeat' (first|((first|apply qwd|apply qa1|apply qa2|apply qa3|apply qh1|apply qh2|apply qg1 rfl|apply qcd);(try intro K hk);focus (simp only [lvX63_59,mkT,go_sem,Nat.reduceEqDiff,Nat.reduceAdd,Nat.reduceLeDiff,Nat.reduceLT,Nat.reduceSub,Int.reduceToNat,↓reduceIte,reduceCtorEq];first|exact rfl|((repeat refine ai ?_);intros;apply hk;clear hk K)))|apply qw8|apply qw1|refine qwc lvX63_59 ?_|apply qt1|apply qw5|apply qw2|apply qw9|apply qt2|apply qt3|apply qt4|apply qt5|apply qt6|apply qw3|apply qw4|apply qj1|apply qj2|apply qj3|apply qj4|apply qj5|apply qu1|apply qu2|(refine qj6 ?_ ?_<;>intro hc<;>(try simp only [hc])<;>(try simp only [decide_eq_true_eq,decide_eq_false_iff_not,Bool.not_eq_true',Bool.not_eq_false',Bool.not_eq_true,reduceCtorEq] at hc)<;>(try (exfalso;omega)))|(refine qt7 ?_ ?_;focus decide)|(refine qw7 ?_ ?_ ?_;(focus (decide +kernel));(focus (decide +kernel)))));exact hh
     · by_cases hn1:n=9
       · refine w63_6 hsl hkl hb hn hx hpb ?_ (by omega) (by omega)
         intro e σ j h1 h2 h3;have hh:=hfin e σ j h1 h2 h3;obtain ⟨τ,mm,nx⟩:=σ;(repeat' (first|((first|apply qwd|apply qa1|apply qa2|apply qa3|apply qh1|apply qh2|apply qg1 rfl|apply qcd);(try intro K hk);focus (simp only [lvX63_59,mkT,go_sem,Nat.reduceEqDiff,Nat.reduceAdd,Nat.reduceLeDiff,Nat.reduceLT,Nat.reduceSub,Int.reduceToNat,↓reduceIte,reduceCtorEq];first|exact rfl|((repeat refine ai ?_);intros;apply hk;clear hk K)))|apply qw8|apply qw1|refine qwc lvX63_59 ?_|apply qt1|apply qw5|apply qw2|apply qw9|apply qt2|apply qt3|apply qt4|apply qt5|apply qt6|apply qw3|apply qw4|apply qj1|apply qj2|apply qj3|apply qj4|apply qj5|apply qu1|apply qu2|(refine qj6 ?_ ?_<;>intro hc<;>(try simp only [hc])<;>(try simp only [decide_eq_true_eq,decide_eq_false_iff_not,Bool.not_eq_true',Bool.not_eq_false',Bool.not_eq_true,reduceCtorEq] at hc)<;>(try (exfalso;omega)))|(refine qt7 ?_ ?_;focus decide)|(refine qw7 ?_ ?_ ?_;(focus (decide +kernel));(focus (decide +kernel)))));exact hh
       · refine w63_7d hsl hkl hb hn hx hpb ?_ (by omega) (by omega)
         intro e σ j h1 h2 h3;have hh:=hfin e σ j h1 h2 h3;obtain ⟨τ,mm,nx⟩:=σ;(repeat' (first|((first|apply qwd|apply qa1|apply qa2|apply qa3|apply qh1|apply qh2|apply qg1 rfl|apply qcd);(try intro K hk);focus (simp only [lvX63_59,mkT,go_sem,Nat.reduceEqDiff,Nat.reduceAdd,Nat.reduceLeDiff,Nat.reduceLT,Nat.reduceSub,Int.reduceToNat,↓reduceIte,reduceCtorEq];first|exact rfl|((repeat refine ai ?_);intros;apply hk;clear hk K)))|apply qw8|apply qw1|refine qwc lvX63_59 ?_|apply qt1|apply qw5|apply qw2|apply qw9|apply qt2|apply qt3|apply qt4|apply qt5|apply qt6|apply qw3|apply qw4|apply qj1|apply qj2|apply qj3|apply qj4|apply qj5|apply qu1|apply qu2|(refine qj6 ?_ ?_<;>intro hc<;>(try simp only [hc])<;>(try simp only [decide_eq_true_eq,decide_eq_false_iff_not,Bool.not_eq_true',Bool.not_eq_false',Bool.not_eq_true,reduceCtorEq] at hc)<;>(try (exfalso;omega)))|(refine qt7 ?_ ?_;focus decide)|(refine qw7 ?_ ?_ ?_;(focus (decide +kernel));(focus (decide +kernel)))));exact hh
     · refine w63_8d hsl hkl hb hn hx hpb ?_ (by omega) rfl
       intro e σ j h1 h2 h3;have hh:=hfin e σ j h1 h2 h3;obtain ⟨τ,mm,nx⟩:=σ;(repeat' (first|((first|apply qwd|apply qa1|apply qa2|apply qa3|apply qh1|apply qh2|apply qg1 rfl|apply qcd);(try intro K hk);focus (simp only [lvX63_59,mkT,go_sem,Nat.reduceEqDiff,Nat.reduceAdd,Nat.reduceLeDiff,Nat.reduceLT,Nat.reduceSub,Int.reduceToNat,↓reduceIte,reduceCtorEq];first|exact rfl|((repeat refine ai ?_);intros;apply hk;clear hk K)))|apply qw8|apply qw1|refine qwc lvX63_59 ?_|apply qt1|apply qw5|apply qw2|apply qw9|apply qt2|apply qt3|apply qt4|apply qt5|apply qt6|apply qw3|apply qw4|apply qj1|apply qj2|apply qj3|apply qj4|apply qj5|apply qu1|apply qu2|(refine qj6 ?_ ?_<;>intro hc<;>(try simp only [hc])<;>(try simp only [decide_eq_true_eq,decide_eq_false_iff_not,Bool.not_eq_true',Bool.not_eq_false',Bool.not_eq_true,reduceCtorEq] at hc)<;>(try (exfalso;omega)))|(refine qt7 ?_ ?_;focus decide)|(refine qw7 ?_ ?_ ?_;(focus (decide +kernel));(focus (decide +kernel)))));exact hh
 · obtain rfl:k=s.length:=by omega
   have hf:=hx.fin (Nat.le_refl _)
   have hlo:=hx.lo
   have hbr:=hx.buf
   clear hx
   obtain ⟨⟨m,tg,ta,ts⟩,buf,ps,out⟩:=x
   dsimp only at *
   have hpl:=putTk_len out (tkText (unT buf))
   have hpe:putTk out ⟨1,[],unT buf,[]⟩=putTk out (tkText (unT buf)):=rfl
   have hul:=unT_len buf
   unfold tsFin at hf
   dsimp only at hf
   by_cases hm:m=0
   · subst hm
     cases ht:textB s with
     | false =>
       rw [ht,if_neg (by decide)] at hf
       rw [hf] at hK
       cases pb<;>simp only [T63,M63,mkS,mkT,mkM,cond_true,cond_false,List.append_nil,List.cons_append,List.nil_append]
       all_goals
        repeat' (first|((first|apply qwd|apply qa1|apply qa2|apply qa3|apply qh1|apply qh2|apply qg1 rfl|apply qcd);(try intro K hk);focus (simp only [lvX63_59,mkT,go_sem,Nat.reduceEqDiff,Nat.reduceAdd,Nat.reduceLeDiff,Nat.reduceLT,Nat.reduceSub,Int.reduceToNat,↓reduceIte,reduceCtorEq,ht,exl,encTks_iff,prs_nil,hpe,encS_eq,ex_St,encS_mk,encTks_len,encPrs_len,encTks_all,encPrs_all,List.length_nil,Int.reduceEq,gt_iff_lt,decide_true,decide_false,Bool.not_true,Bool.not_false];first|exact rfl|((repeat refine ai ?_);intros;apply hk;clear hk K)))|apply qw8|apply qw1|refine qwc lvX63_59 ?_|apply qt1|apply qw5|apply qw2|apply qw9|apply qt2|apply qt3|apply qt4|apply qt5|apply qt6|apply qw3|apply qw4|apply qj1|apply qj2|apply qj3|apply qj4|apply qj5|apply qu1|apply qu2|(refine qj6 ?_ ?_<;>intro hc<;>(try simp only [hc])<;>(try simp only [decide_eq_true_eq,decide_eq_false_iff_not,Bool.not_eq_true',Bool.not_eq_false',Bool.not_eq_true,reduceCtorEq] at hc)<;>(try (exfalso;omega)))|(refine qt7 ?_ ?_;focus decide)|(refine qw7 ?_ ?_ ?_;(focus (decide +kernel));(focus (decide +kernel))))
        ((first|refine fin_ret ?_|refine fin_end ?_);simp only [go_sem,↓upd_def,Nat.reduceEqDiff,Nat.reduceAdd,↓reduceIte,reduceCtorEq])
        exact hK
     | true =>
       rw [ht,if_pos rfl] at hf
       by_cases h60:(putTk out (tkText (unT buf))).length≤60
       · rw [if_neg (by omega)] at hf
         rw [hf] at hK
         cases pb<;>simp only [T63,M63,mkS,mkT,mkM,cond_true,cond_false,List.append_nil,List.cons_append,List.nil_append]
         all_goals
          repeat' (first|((first|apply qwd|apply qa1|apply qa2|apply qa3|apply qh1|apply qh2|apply qg1 rfl|apply qcd);(try intro K hk);focus (simp only [lvX63_59,mkT,go_sem,Nat.reduceEqDiff,Nat.reduceAdd,Nat.reduceLeDiff,Nat.reduceLT,Nat.reduceSub,Int.reduceToNat,↓reduceIte,reduceCtorEq,ht,exl,encTks_iff,prs_nil,hpe,encS_eq,ex_St,encS_mk,encTks_len,encPrs_len,encTks_all,encPrs_all,List.length_nil,Int.reduceEq,gt_iff_lt,decide_true,decide_false,Bool.not_true,Bool.not_false];first|exact rfl|((repeat refine ai ?_);intros;apply hk;clear hk K)))|apply qw8|apply qw1|refine qwc lvX63_59 ?_|apply qt1|apply qw5|apply qw2|apply qw9|apply qt2|apply qt3|apply qt4|apply qt5|apply qt6|apply qw3|apply qw4|apply qj1|apply qj2|apply qj3|apply qj4|apply qj5|apply qu1|apply qu2|(refine qj6 ?_ ?_<;>intro hc<;>(try simp only [hc])<;>(try simp only [decide_eq_true_eq,decide_eq_false_iff_not,Bool.not_eq_true',Bool.not_eq_false',Bool.not_eq_true,reduceCtorEq] at hc)<;>(try (exfalso;omega)))|(refine qt7 ?_ ?_;focus decide)|(refine qw7 ?_ ?_ ?_;(focus (decide +kernel));(focus (decide +kernel))))
          ((first|refine fin_ret ?_|refine fin_end ?_);simp only [go_sem,↓upd_def,Nat.reduceEqDiff,Nat.reduceAdd,↓reduceIte,reduceCtorEq])
          exact hK
       · rw [if_pos (by omega)] at hf
         rw [hf] at hK
         cases pb<;>simp only [T63,M63,mkS,mkT,mkM,cond_true,cond_false,List.append_nil,List.cons_append,List.nil_append]
         all_goals
          repeat' (first|((first|apply qwd|apply qa1|apply qa2|apply qa3|apply qh1|apply qh2|apply qg1 rfl|apply qcd);(try intro K hk);focus (simp only [lvX63_59,mkT,go_sem,Nat.reduceEqDiff,Nat.reduceAdd,Nat.reduceLeDiff,Nat.reduceLT,Nat.reduceSub,Int.reduceToNat,↓reduceIte,reduceCtorEq,ht,exl,encTks_iff,prs_nil,hpe,encS_eq,ex_St,encS_mk,encTks_len,encPrs_len,encTks_all,encPrs_all,List.length_nil,Int.reduceEq,gt_iff_lt,decide_true,decide_false,Bool.not_true,Bool.not_false];first|exact rfl|((repeat refine ai ?_);intros;apply hk;clear hk K)))|apply qw8|apply qw1|refine qwc lvX63_59 ?_|apply qt1|apply qw5|apply qw2|apply qw9|apply qt2|apply qt3|apply qt4|apply qt5|apply qt6|apply qw3|apply qw4|apply qj1|apply qj2|apply qj3|apply qj4|apply qj5|apply qu1|apply qu2|(refine qj6 ?_ ?_<;>intro hc<;>(try simp only [hc])<;>(try simp only [decide_eq_true_eq,decide_eq_false_iff_not,Bool.not_eq_true',Bool.not_eq_false',Bool.not_eq_true,reduceCtorEq] at hc)<;>(try (exfalso;omega)))|(refine qt7 ?_ ?_;focus decide)|(refine qw7 ?_ ?_ ?_;(focus (decide +kernel));(focus (decide +kernel))))
          ((first|refine fin_ret ?_|refine fin_end ?_);simp only [go_sem,↓upd_def,Nat.reduceEqDiff,Nat.reduceAdd,↓reduceIte,reduceCtorEq])
          exact hK
   · have hf:tokM s=none:=by
      rw [hf]
      split
      · rw [if_pos (.inl hm)]
      · rfl
     rw [hf] at hK
     cases pb<;>simp only [T63,M63,mkS,mkT,mkM,cond_true,cond_false,List.append_nil,List.cons_append,List.nil_append]
     all_goals
      repeat' (first|((first|apply qwd|apply qa1|apply qa2|apply qa3|apply qh1|apply qh2|apply qg1 rfl|apply qcd);(try intro K hk);focus (simp only [lvX63_59,mkT,go_sem,Nat.reduceEqDiff,Nat.reduceAdd,Nat.reduceLeDiff,Nat.reduceLT,Nat.reduceSub,Int.reduceToNat,↓reduceIte,reduceCtorEq,hm,exl,encTks_iff,prs_nil,hpe,encS_eq,ex_St,encS_mk,encTks_len,encPrs_len,encTks_all,encPrs_all,List.length_nil,Int.reduceEq,gt_iff_lt,decide_true,decide_false,Bool.not_true,Bool.not_false];first|exact rfl|((repeat refine ai ?_);intros;apply hk;clear hk K)))|apply qw8|apply qw1|refine qwc lvX63_59 ?_|apply qt1|apply qw5|apply qw2|apply qw9|apply qt2|apply qt3|apply qt4|apply qt5|apply qt6|apply qw3|apply qw4|apply qj1|apply qj2|apply qj3|apply qj4|apply qj5|apply qu1|apply qu2|(refine qj6 ?_ ?_<;>intro hc<;>(try simp only [hc])<;>(try simp only [decide_eq_true_eq,decide_eq_false_iff_not,Bool.not_eq_true',Bool.not_eq_false',Bool.not_eq_true,reduceCtorEq] at hc)<;>(try (exfalso;omega)))|(refine qt7 ?_ ?_;focus decide)|(refine qw7 ?_ ?_ ?_;(focus (decide +kernel));(focus (decide +kernel))))
      ((first|refine fin_ret ?_|refine fin_end ?_);simp only [go_sem,↓upd_def,Nat.reduceEqDiff,Nat.reduceAdd,↓reduceIte,reduceCtorEq])
      exact hK
end Go.Proofs.Ytnbjogilidfkdaa

/- Reading tokens: texts, ends. -/
namespace Go.Proofs.Ytnbjogilidfkdaa
attribute [local irreducible] awp arun acalm FinP Fin AX.then AX.inBlock Again aG gsel amix amixN amixC aop aopc aopd cutK
attribute [local go_sem] aBSliceD aSlice aSliceC boundOf aMk aCall aCallC aLenL aLen aPick_t aPick_f aNil aAlloc aBox aBuild bldPV aBSlice bsPV aApp newsOf destOf drp aConvX aConv aConvInt aLoad cellsAt aStore cellsPV setAt aFld aField aIdx aIndex aUn aBin' aBin aMax aExtract pvOf PV.isCell nmbL PV.nmb List.map_cons List.map_nil List.all_cons List.all_nil Bool.and_true Bool.true_and if_true if_false List.getD_cons_zero List.getD_cons_succ List.getD_nil Option.isSome_some true_and and_true and_self eq_self true_or or_true List.drop_zero List.drop_succ_cons List.drop_nil List.take_zero List.take_succ_cons List.take_nil List.length_cons List.length_nil List.length_map Option.getD_some Option.getD_none List.nil_append List.cons_append List.append_nil Option.some.injEq exists_eq_left' List.getElem?_cons_zero List.getElem?_cons_succ Int.toNat_natCast Int.natCast_inj toNat_succ Nat.zero_add res res1 resC owns owns1 ownsC List.flatMap_cons List.flatMap_nil List.flatten_cons List.flatten_nil List.mem_cons List.not_mem_nil or_false false_or forall_eq forall_eq_or_imp isFro frz frz1 pureC tabA isBld List.cons.injEq PV.seq.injEq PV.int.injEq PV.str.injEq PV.bool.injEq PV.agg.injEq inR tab Γof aRes packR Option.map_some Option.map_none rel Prod.exists exists_and_left exists_eq_left and_assoc beq_self_eq_true Bool.not_true Bool.not_false decide_true decide_false List.set_cons_zero List.set_cons_succ rst_nil rst_cons
attribute [local go_sem ↓] evT upd_def aop aopc aopd
set_option maxRecDepth 100000
set_option linter.unusedVariables false
set_option linter.unusedSimpArgs false
open Go.RowKit
def lvX53B_29:Nat→List Nat
 | 0=>[0]
 | 1=>[0,15]
 | 2=>[2,3]
 | 3=>[0,4]
 | 4=>[0,4,5]
 | 5=>[0,4,5,6]
 | 6=>[0,4,5,6,7]
 | 7=>[0,4,5,6,7,8]
 | 8=>[0,4,5,6,7,8,23]
 | 9=>[0,4,5,6,7,8]
 | 10=>[0,4,5,6,7,8,9]
 | 11=>[0,4,5,6,7,8,9,10]
 | 12=>[0,4,5,6,7,8,9,10,32]
 | 13=>[2,3]
 | 14=>[0,4,5,6,7,8,9,10,36]
 | 15=>[0,4,5,6,7,8,9,10]
 | 16=>[0,4,5,6,7,8,9,10,49]
 | 17=>[0,4,5,6,7,8,9,10,55]
 | 18=>[0,4,5,7,8,9,10]
 | 19=>[0,4,5,6,7,8,9,10]
 | 20=>[0,4,5,6,7,8,9,10,63]
 | 21=>[0,4,5,6,7,8,9,10]
 | 22=>[0,4,5,6,7,8,9,10,73]
 | 23=>[0,4,5,6,7,8,9,10]
 | 24=>[0,4,5,6,7,8,9,10,88]
 | 25=>[0,4,5,7,8,9,10]
 | 26=>[0,4,5,6,7,8,9,10]
 | 27=>[0,4,5,6,7,8,9,10,103]
 | 28=>[0,4,5,6,7,8,9,10]
 | 29=>[0,4,5,6,7,8,9,10,111]
 | 30=>[0,4,5,6,7,8,9,10,122]
 | 31=>[0,4,5,7,8,9,10]
 | 32=>[0,4,5,6,7,8,9,10]
 | 33=>[0,4,5,6,7,8,9,10,133]
 | 34=>[0,4,5,6,7,8,9,10]
 | 35=>[0,4,5,6,7,8,9,10,148]
 | 36=>[0,4,5,6,7,8,9,10,11]
 | 37=>[0,4,5,6,7,8,9,10,11,153]
 | 38=>[0,4,5,6,7,8,10]
 | 39=>[0,4,5,6,7,8,9,10,11,170]
 | 40=>[0,4,5,6,7,8,10]
 | 41=>[0,4,5,6,7,8,9,10,11,181]
 | 42=>[0,4,5,6,7,8,10]
 | 43=>[0,4,5,6,7,8,10,214]
 | 44=>[0,4,5,6,7,8,10]
 | 45=>[0,4,5,6,7,8,10,228,229]
 | 46=>[0,4,5,6,7,8,10,228,229,230]
 | 47=>[0,4,5,6,7,8,10,12,228,229]
 | 48=>[0,4,5,6,7,8,10,228,229]
 | 49=>[0,4,5,6,7,8,10,228,229]
 | 50=>[0,4,5,6,7,8,10,248]
 | 51=>[2,3]
 | 52=>[0,4,5,6,7,8,10]
 | 53=>[0,4,5,6,7,8,10]
 | 54=>[0,4,5,6,7,8]
 | 55=>[4,6,257]
 | 56=>[2,3]
 | 57=>[4,6,260]
 | 58=>[4]
 | 59=>[4,270]
 | 60=>[2,3]
 | 61=>[2,3]
 | _=>[]
--LV=X53B
set_option maxHeartbeats 40000000 in
theorem w53_00 {s:Bs} {k:Nat} {m:Int} {tg ta:Bs} {ts:Bool} {raw:Bs} {ps:List (Bs×Bs)} {out:List TokD} {rb pb:Bool} {b:UInt8} {n:Int} {ng na:Bs} {ns:Bool} {Q:AX→AS→Prop}
 (hsl:s.length≤600) (hkl:k<s.length) (hb:s.getD k 0=b) (hn:step ⟨m,tg,ta,ts⟩ b=⟨n,ng,na,ns⟩) (hx:TkAt s k ⟨⟨m,tg,ta,ts⟩,raw,ps,out⟩)
 (hrb:cond rb (m=0∨10≤m) (raw=[])) (hpb:cond pb (3≤m∧m≤8) (ps=[])) (hm:m=0) (hn0:n=0):Round53 s (k,⟨⟨m,tg,ta,ts⟩,raw,ps,out⟩,rb,pb) Q:=by
 have hok:=hx.ok
 have hoS:okS ⟨m,tg,ta,ts⟩:=okS_of hok.v
 have hoN:=okS_of (stV_step ⟨m,tg,ta,ts⟩ b)
 rw [hn] at hoN
 have hst:=fun y=>hx.step (y:=y) hkl
 rw [hb] at hst
 have hlo:out.length≤k:=hx.lo
 have hlp:ps.length≤k:=hx.lp
 have hbr:raw.length≤k:=hx.bd.raw
 have hbp: ∀ p ∈ ps,bdP k p:=hx.bd.ps
 have hops:4≤m∧m≤8→ ∃ l v,ps=l++[(ta,v)]:=hok.ps
 have hz: ¬ (2≤m∧m≤8)→ps=[]:=hok.z
 have hles:m=14→raw≠[]:=hok.less
 clear hok hx
 have hbl:=byte_lt s k
 rw [hb] at hbl
 try dsimp only at hst
 have hkd:kd53 m=0:=kd53_out (by omega)
 subst hm hn0
 have hp0:ps=[]:=hz (by omega)
 subst hp0
 have hpb0:pb=false:=by
  cases pb
  · rfl
  · simp only [cond_true] at hpb;omega
 subst hpb0
 clear hpb
 unfold Round53 body53
 simp only [Try.f29,firstLoop,Option.getD_some,G53]
 cases rb
 · have hr0:raw=[]:=hrb
   subst hr0
   have hat:=hst ⟨⟨0,ng,na,ns⟩,[b],[],out⟩ (by simp [tkStep,rawI,prsI, *])
   simp only [T53,M53,mkS,mkT,mkM,cond_false,List.append_nil,hkd]
   repeat' (first|((first|apply qwd|apply qa1|apply qa2|apply qh1|apply qg1 rfl|apply qcd);(try intro K hk);focus (simp only [lvX53B_29,mkT,go_sem,Nat.reduceEqDiff,Nat.reduceAdd,Nat.reduceLeDiff,↓reduceIte,reduceCtorEq,hb,hn,encS_eq,ex_St,List.length_nil,List.length_cons,Int.reduceEq,Int.reduceLE,decide_true,decide_false];first|exact rfl|((repeat refine ai ?_);intros;apply hk;clear hk K)))|apply qw1|refine qwc lvX53B_29 ?_|apply qt1|apply qw5|apply qw2|apply qt4|apply qj1|apply qj4|apply qu1|(refine qj6 ?_ ?_<;>intro hc<;>(try simp only [hc])<;>(try simp only [decide_eq_true_eq,decide_eq_false_iff_not] at hc)<;>(try (exfalso;omega))))
   refine s_againR ((k+1,⟨⟨0,ng,na,ns⟩,[b],[],out⟩,true,false)) (fun i=>if i=2 then 7 else i) ?_ ?_ ?_ ?_ ?_ ?_<;>(first|omega|(dsimp only;omega)|(intro i hi;(try dsimp only);(repeat' split)<;>omega)|(intro i j hi hj h;(try dsimp only at h);(repeat' split at h)<;>omega)|skip)
   all_goals first|(unfold good53;exact ⟨by dsimp only;omega,hat,by simp<;>omega,by simp<;>omega⟩)|(unfold mu53;dsimp only;omega)|(simp [T53,M53,fitsTR,fitsMR,PV.ren,renL,MB.ren,upd_def,PV.nmb,nmbL,MB.nmb,encS_mk,kd53,bc];done)
 · have hat:=hst ⟨⟨0,ng,na,ns⟩,raw++[b],[],out⟩ (by simp [tkStep,rawI,prsI, *])
   simp only [T53,M53,mkS,mkT,mkM,cond_true,cond_false,List.append_nil,List.cons_append,List.nil_append,hkd]
   repeat' (first|((first|apply qwd|apply qa1|apply qa2|apply qh1|apply qg1 rfl|apply qcd);(try intro K hk);focus (simp only [lvX53B_29,mkT,go_sem,Nat.reduceEqDiff,Nat.reduceAdd,Nat.reduceLeDiff,↓reduceIte,reduceCtorEq,hb,hn,encS_eq,ex_St,bytes_app53,List.length_map,List.length_nil,List.length_cons,Int.reduceEq,Int.reduceLE,decide_true,decide_false];first|exact rfl|((repeat refine ai ?_);intros;apply hk;clear hk K)))|apply qw1|refine qwc lvX53B_29 ?_|apply qt1|apply qw5|apply qw2|apply qt4|apply qj1|apply qj4|apply qu1|(refine qj6 ?_ ?_<;>intro hc<;>(try simp only [hc])<;>(try simp only [decide_eq_true_eq,decide_eq_false_iff_not] at hc)<;>(try (exfalso;omega))))
   refine s_againR ((k+1,⟨⟨0,ng,na,ns⟩,raw++[b],[],out⟩,true,false)) (fun i=>if i=2 then 7 else i) ?_ ?_ ?_ ?_ ?_ ?_<;>(first|omega|(dsimp only;omega)|(intro i hi;(try dsimp only);(repeat' split)<;>omega)|(intro i j hi hj h;(try dsimp only at h);(repeat' split at h)<;>omega)|skip)
   all_goals first|(unfold good53;exact ⟨by dsimp only;omega,hat,by simp<;>omega,by simp<;>omega⟩)|(unfold mu53;dsimp only;omega)|(simp [T53,M53,fitsTR,fitsMR,PV.ren,renL,MB.ren,upd_def,PV.nmb,nmbL,MB.nmb,encS_mk,kd53,bc];done)
set_option maxHeartbeats 40000000 in
theorem w53_01 {s:Bs} {k:Nat} {m:Int} {tg ta:Bs} {ts:Bool} {raw:Bs} {ps:List (Bs×Bs)} {out:List TokD} {rb pb:Bool} {b:UInt8} {n:Int} {ng na:Bs} {ns:Bool} {Q:AX→AS→Prop}
 (hsl:s.length≤600) (hkl:k<s.length) (hb:s.getD k 0=b) (hn:step ⟨m,tg,ta,ts⟩ b=⟨n,ng,na,ns⟩) (hx:TkAt s k ⟨⟨m,tg,ta,ts⟩,raw,ps,out⟩)
 (hrb:cond rb (m=0∨10≤m) (raw=[])) (hpb:cond pb (3≤m∧m≤8) (ps=[])) (hm:m=0) (hn0:n=1):Round53 s (k,⟨⟨m,tg,ta,ts⟩,raw,ps,out⟩,rb,pb) Q:=by
 have hok:=hx.ok
 have hoS:okS ⟨m,tg,ta,ts⟩:=okS_of hok.v
 have hoN:=okS_of (stV_step ⟨m,tg,ta,ts⟩ b)
 rw [hn] at hoN
 have hst:=fun y=>hx.step (y:=y) hkl
 rw [hb] at hst
 have hlo:out.length≤k:=hx.lo
 have hlp:ps.length≤k:=hx.lp
 have hbr:raw.length≤k:=hx.bd.raw
 have hbp: ∀ p ∈ ps,bdP k p:=hx.bd.ps
 have hops:4≤m∧m≤8→ ∃ l v,ps=l++[(ta,v)]:=hok.ps
 have hz: ¬ (2≤m∧m≤8)→ps=[]:=hok.z
 have hles:m=14→raw≠[]:=hok.less
 clear hok hx
 have hbl:=byte_lt s k
 rw [hb] at hbl
 try dsimp only at hst
 have hkd:kd53 m=0:=kd53_out (by omega)
 subst hm hn0
 have hp0:ps=[]:=hz (by omega)
 subst hp0
 have hpb0:pb=false:=by
  cases pb
  · rfl
  · simp only [cond_true] at hpb;omega
 subst hpb0
 clear hpb
 unfold Round53 body53
 simp only [Try.f29,firstLoop,Option.getD_some,G53]
 cases rb
 · have hr0:raw=[]:=hrb
   subst hr0
   have hat:=hst ⟨⟨1,ng,na,ns⟩,[],[],out⟩ (by simp [tkStep,rawI,prsI, *])
   simp only [T53,M53,mkS,mkT,mkM,cond_false,List.append_nil,hkd]
   repeat' (first|((first|apply qwd|apply qa1|apply qa2|apply qh1|apply qg1 rfl|apply qcd);(try intro K hk);focus (simp only [lvX53B_29,mkT,go_sem,Nat.reduceEqDiff,Nat.reduceAdd,Nat.reduceLeDiff,↓reduceIte,reduceCtorEq,hb,hn,encS_eq,ex_St,List.length_nil,List.length_cons,Int.reduceEq,Int.reduceLE,Int.reduceLT,decide_true,decide_false];first|exact rfl|((repeat refine ai ?_);intros;apply hk;clear hk K)))|apply qw1|refine qwc lvX53B_29 ?_|apply qt1|apply qw5|apply qw2|apply qt4|apply qj1|apply qj4|apply qu1|(refine qj6 ?_ ?_<;>intro hc<;>(try simp only [hc])<;>(try simp only [decide_eq_true_eq,decide_eq_false_iff_not] at hc)<;>(try (exfalso;omega))))
   refine s_again ((k+1,⟨⟨1,ng,na,ns⟩,[],[],out⟩,false,false)) ?_ ?_ ?_<;>(first|omega|(dsimp only;omega)|skip)
   all_goals first|(unfold good53;exact ⟨by dsimp only;omega,hat,by simp<;>omega,by simp<;>omega⟩)|(unfold mu53;dsimp only;omega)|(simp [T53,M53,fits,fitsT,fitsM,upd_def,PV.nmb,nmbL,MB.nmb,encS_mk,kd53];done)
 · by_cases hr:raw=[]
   · subst hr
     have hat:=hst ⟨⟨1,ng,na,ns⟩,[],[],out⟩ (by simp [tkStep,rawI,prsI, *])
     simp only [T53,M53,mkS,mkT,mkM,cond_true,cond_false,List.append_nil,List.cons_append,List.nil_append,hkd]
     repeat' (first|((first|apply qwd|apply qa1|apply qa2|apply qh1|apply qg1 rfl|apply qcd);(try intro K hk);focus (simp only [lvX53B_29,mkT,go_sem,Nat.reduceEqDiff,Nat.reduceAdd,Nat.reduceLeDiff,↓reduceIte,reduceCtorEq,hb,hn,encS_eq,ex_St,List.length_nil,List.length_cons,Int.reduceEq,Int.reduceLE,decide_true,decide_false];first|exact rfl|((repeat refine ai ?_);intros;apply hk;clear hk K)))|apply qw1|refine qwc lvX53B_29 ?_|apply qt1|apply qw5|apply qw2|apply qt4|apply qj1|apply qj4|apply qu1|(refine qj6 ?_ ?_<;>intro hc<;>(try simp only [hc])<;>(try simp only [decide_eq_true_eq,decide_eq_false_iff_not] at hc)<;>(try (exfalso;omega))))
     refine s_again ((k+1,⟨⟨1,ng,na,ns⟩,[],[],out⟩,false,false)) ?_ ?_ ?_<;>(first|omega|(dsimp only;omega)|skip)
     all_goals first|(unfold good53;exact ⟨by dsimp only;omega,hat,by simp<;>omega,by simp<;>omega⟩)|(unfold mu53;dsimp only;omega)|(simp [T53,M53,fits,fitsT,fitsM,upd_def,PV.nmb,nmbL,MB.nmb,encS_mk,kd53];done)
   · have hrl:0<raw.length:=List.length_pos_iff.2 hr
     have hat:=hst ⟨⟨1,ng,na,ns⟩,[],[],out++[tkText (unT raw)]⟩ (by simp [tkStep,rawI,prsI, *])
     simp only [T53,M53,mkS,mkT,mkM,cond_true,cond_false,List.append_nil,List.cons_append,List.nil_append,hkd]
     repeat' (first|((first|apply qwd|apply qa1|apply qa2|apply qh1|apply qg1 rfl|apply qcd);(try intro K hk);focus (simp only [lvX53B_29,mkT,go_sem,Nat.reduceEqDiff,Nat.reduceAdd,Nat.reduceLeDiff,Nat.reduceLT,↓reduceIte,reduceCtorEq,hb,hn,encS_eq,ex_St,encTks_len,tok_app53n,List.length_map,List.length_nil,List.length_cons,Int.reduceEq,Int.reduceLE,decide_true,decide_false];first|exact rfl|((repeat refine ai ?_);intros;apply hk;clear hk K)))|apply qw1|refine qwc lvX53B_29 ?_|apply qt1|apply qw5|apply qw2|apply qt4|apply qj1|apply qj4|apply qu1|(refine qj6 ?_ ?_<;>intro hc<;>(try simp only [hc])<;>(try simp only [decide_eq_true_eq,decide_eq_false_iff_not] at hc)<;>(try (exfalso;omega))))
     refine s_againR ((k+1,⟨⟨1,ng,na,ns⟩,[],[],out++[tkText (unT raw)]⟩,false,false)) (fun i=>if i=0 then 7 else i) ?_ ?_ ?_ ?_ ?_ ?_<;>(first|omega|(dsimp only;omega)|(intro i hi;(try dsimp only);(repeat' split)<;>omega)|(intro i j hi hj h;(try dsimp only at h);(repeat' split at h)<;>omega)|skip)
     all_goals first|(unfold good53;exact ⟨by dsimp only;omega,hat,by simp<;>omega,by simp<;>omega⟩)|(unfold mu53;dsimp only;omega)|(simp [T53,M53,fitsTR,fitsMR,PV.ren,renL,MB.ren,upd_def,PV.nmb,nmbL,MB.nmb,encS_mk,kd53,tkText];done)
set_option maxHeartbeats 40000000 in
theorem w53_12 {s:Bs} {k:Nat} {m:Int} {tg ta:Bs} {ts:Bool} {raw:Bs} {ps:List (Bs×Bs)} {out:List TokD} {rb pb:Bool} {b:UInt8} {n:Int} {ng na:Bs} {ns:Bool} {Q:AX→AS→Prop}
 (hsl:s.length≤600) (hkl:k<s.length) (hb:s.getD k 0=b) (hn:step ⟨m,tg,ta,ts⟩ b=⟨n,ng,na,ns⟩) (hx:TkAt s k ⟨⟨m,tg,ta,ts⟩,raw,ps,out⟩)
 (hrb:cond rb (m=0∨10≤m) (raw=[])) (hpb:cond pb (3≤m∧m≤8) (ps=[])) (hm:m=1) (hn0:n=2):Round53 s (k,⟨⟨m,tg,ta,ts⟩,raw,ps,out⟩,rb,pb) Q:=by
 have hok:=hx.ok
 have hoS:okS ⟨m,tg,ta,ts⟩:=okS_of hok.v
 have hoN:=okS_of (stV_step ⟨m,tg,ta,ts⟩ b)
 rw [hn] at hoN
 have hst:=fun y=>hx.step (y:=y) hkl
 rw [hb] at hst
 have hlo:out.length≤k:=hx.lo
 have hlp:ps.length≤k:=hx.lp
 have hbr:raw.length≤k:=hx.bd.raw
 have hbp: ∀ p ∈ ps,bdP k p:=hx.bd.ps
 have hops:4≤m∧m≤8→ ∃ l v,ps=l++[(ta,v)]:=hok.ps
 have hz: ¬ (2≤m∧m≤8)→ps=[]:=hok.z
 have hles:m=14→raw≠[]:=hok.less
 clear hok hx
 have hbl:=byte_lt s k
 rw [hb] at hbl
 try dsimp only at hst
 have hkd:kd53 m=0:=kd53_out (by omega)
 subst hm hn0
 have hp0:ps=[]:=hz (by omega)
 subst hp0
 have hpb0:pb=false:=by
  cases pb
  · rfl
  · simp only [cond_true] at hpb;omega
 subst hpb0
 clear hpb
 have hrb0:rb=false:=by
  cases rb
  · rfl
  · simp only [cond_true] at hrb;omega
 subst hrb0
 have hr0:raw=[]:=hrb
 subst hr0
 clear hrb
 unfold Round53 body53
 simp only [Try.f29,firstLoop,Option.getD_some,G53]
 have hat:=hst ⟨⟨2,ng,na,ns⟩,[],[],out⟩ (by simp [tkStep,rawI,prsI, *])
 simp only [T53,M53,mkS,mkT,mkM,cond_false,List.append_nil,hkd]
 repeat' (first|((first|apply qwd|apply qa1|apply qa2|apply qh1|apply qg1 rfl|apply qcd);(try intro K hk);focus (simp only [lvX53B_29,mkT,go_sem,Nat.reduceEqDiff,Nat.reduceAdd,Nat.reduceLeDiff,Nat.reduceLT,↓reduceIte,reduceCtorEq,hb,hn,encS_eq,ex_St,List.length_nil,List.length_cons,Int.reduceEq,Int.reduceLE,decide_true,decide_false];first|exact rfl|((repeat refine ai ?_);intros;apply hk;clear hk K)))|apply qw1|refine qwc lvX53B_29 ?_|apply qt1|apply qw5|apply qw2|apply qt4|apply qj1|apply qj4|apply qu1|(refine qj6 ?_ ?_<;>intro hc<;>(try simp only [hc])<;>(try simp only [decide_eq_true_eq,decide_eq_false_iff_not] at hc)<;>(try (exfalso;omega))))
 refine s_again ((k+1,⟨⟨2,ng,na,ns⟩,[],[],out⟩,false,false)) ?_ ?_ ?_<;>(first|omega|(dsimp only;omega)|skip)
 all_goals first|(unfold good53;exact ⟨by dsimp only;omega,hat,by simp<;>omega,by simp<;>omega⟩)|(unfold mu53;dsimp only;omega)|(simp [T53,M53,fits,fitsT,fitsM,upd_def,PV.nmb,nmbL,MB.nmb,encS_mk,kd53];done)
set_option maxHeartbeats 40000000 in
theorem w53_1n {s:Bs} {k:Nat} {m:Int} {tg ta:Bs} {ts:Bool} {raw:Bs} {ps:List (Bs×Bs)} {out:List TokD} {rb pb:Bool} {b:UInt8} {n:Int} {ng na:Bs} {ns:Bool} {Q:AX→AS→Prop}
 (hsl:s.length≤600) (hkl:k<s.length) (hb:s.getD k 0=b) (hn:step ⟨m,tg,ta,ts⟩ b=⟨n,ng,na,ns⟩) (hx:TkAt s k ⟨⟨m,tg,ta,ts⟩,raw,ps,out⟩)
 (hrb:cond rb (m=0∨10≤m) (raw=[])) (hpb:cond pb (3≤m∧m≤8) (ps=[])) (hm:m=1) (hn0:n=9∨n=10):Round53 s (k,⟨⟨m,tg,ta,ts⟩,raw,ps,out⟩,rb,pb) Q:=by
 have hok:=hx.ok
 have hoS:okS ⟨m,tg,ta,ts⟩:=okS_of hok.v
 have hoN:=okS_of (stV_step ⟨m,tg,ta,ts⟩ b)
 rw [hn] at hoN
 have hst:=fun y=>hx.step (y:=y) hkl
 rw [hb] at hst
 have hlo:out.length≤k:=hx.lo
 have hlp:ps.length≤k:=hx.lp
 have hbr:raw.length≤k:=hx.bd.raw
 have hbp: ∀ p ∈ ps,bdP k p:=hx.bd.ps
 have hops:4≤m∧m≤8→ ∃ l v,ps=l++[(ta,v)]:=hok.ps
 have hz: ¬ (2≤m∧m≤8)→ps=[]:=hok.z
 have hles:m=14→raw≠[]:=hok.less
 clear hok hx
 have hbl:=byte_lt s k
 rw [hb] at hbl
 try dsimp only at hst
 have hkd:kd53 m=0:=kd53_out (by omega)
 subst hm
 have hp0:ps=[]:=hz (by omega)
 subst hp0
 have hpb0:pb=false:=by
  cases pb
  · rfl
  · simp only [cond_true] at hpb;omega
 subst hpb0
 clear hpb
 have hrb0:rb=false:=by
  cases rb
  · rfl
  · simp only [cond_true] at hrb;omega
 subst hrb0
 have hr0:raw=[]:=hrb
 subst hr0
 clear hrb
 have hkn:kd53 n=0:=kd53_out (by omega)
 have hn0:decide (n=0)=false:=decide_eq_false (by omega)
 have hn1:decide (n=1)=false:=decide_eq_false (by omega)
 have hn2:decide (n=2)=false:=decide_eq_false (by omega)
 have hn15:decide (n=15)=false:=decide_eq_false (by omega)
 unfold Round53 body53
 simp only [Try.f29,firstLoop,Option.getD_some,G53]
 have hat:=hst ⟨⟨n,ng,na,ns⟩,[],[],out⟩ (by simp only [tkStep,rawI,prsI,hn];(repeat (first|rw [if_pos (by omega)]|rw [if_neg (by omega)]));try simp [lastP_snoc,tkEnd,tkCom,tkScr])
 simp only [T53,M53,mkS,mkT,mkM,cond_false,List.append_nil,hkd]
 repeat' (first|((first|apply qwd|apply qa1|apply qa2|apply qh1|apply qg1 rfl|apply qcd);(try intro K hk);focus (simp only [lvX53B_29,mkT,go_sem,Nat.reduceEqDiff,Nat.reduceAdd,Nat.reduceLeDiff,↓reduceIte,reduceCtorEq,hb,hn,encS_eq,ex_St,List.length_nil,List.length_cons,Int.reduceEq,Int.reduceLE,decide_true,decide_false,hn2,hn15];first|exact rfl|((repeat refine ai ?_);intros;apply hk;clear hk K)))|apply qw1|refine qwc lvX53B_29 ?_|apply qt1|apply qw5|apply qw2|apply qt4|apply qj1|apply qj4|apply qu1|(refine qj6 ?_ ?_<;>intro hc<;>(try simp only [hc])<;>(try simp only [decide_eq_true_eq,decide_eq_false_iff_not] at hc)<;>(try (exfalso;omega))))
 refine s_again ((k+1,⟨⟨n,ng,na,ns⟩,[],[],out⟩,false,false)) ?_ ?_ ?_<;>(first|omega|(dsimp only;omega)|skip)
 all_goals first|(unfold good53;exact ⟨by dsimp only;omega,hat,by simp<;>omega,by simp<;>omega⟩)|(unfold mu53;dsimp only;omega)|(simp [T53,M53,fits,fitsT,fitsM,upd_def,PV.nmb,nmbL,MB.nmb,encS_mk,hkn];done)
set_option maxHeartbeats 40000000 in
theorem w53_90 {s:Bs} {k:Nat} {m:Int} {tg ta:Bs} {ts:Bool} {raw:Bs} {ps:List (Bs×Bs)} {out:List TokD} {rb pb:Bool} {b:UInt8} {n:Int} {ng na:Bs} {ns:Bool} {Q:AX→AS→Prop}
 (hsl:s.length≤600) (hkl:k<s.length) (hb:s.getD k 0=b) (hn:step ⟨m,tg,ta,ts⟩ b=⟨n,ng,na,ns⟩) (hx:TkAt s k ⟨⟨m,tg,ta,ts⟩,raw,ps,out⟩)
 (hrb:cond rb (m=0∨10≤m) (raw=[])) (hpb:cond pb (3≤m∧m≤8) (ps=[])) (hm:m=9) (hn0:n=0):Round53 s (k,⟨⟨m,tg,ta,ts⟩,raw,ps,out⟩,rb,pb) Q:=by
 have hok:=hx.ok
 have hoS:okS ⟨m,tg,ta,ts⟩:=okS_of hok.v
 have hoN:=okS_of (stV_step ⟨m,tg,ta,ts⟩ b)
 rw [hn] at hoN
 have hst:=fun y=>hx.step (y:=y) hkl
 rw [hb] at hst
 have hlo:out.length≤k:=hx.lo
 have hlp:ps.length≤k:=hx.lp
 have hbr:raw.length≤k:=hx.bd.raw
 have hbp: ∀ p ∈ ps,bdP k p:=hx.bd.ps
 have hops:4≤m∧m≤8→ ∃ l v,ps=l++[(ta,v)]:=hok.ps
 have hz: ¬ (2≤m∧m≤8)→ps=[]:=hok.z
 have hles:m=14→raw≠[]:=hok.less
 clear hok hx
 have hbl:=byte_lt s k
 rw [hb] at hbl
 try dsimp only at hst
 have hkd:kd53 m=0:=kd53_out (by omega)
 subst hm hn0
 have hp0:ps=[]:=hz (by omega)
 subst hp0
 have hpb0:pb=false:=by
  cases pb
  · rfl
  · simp only [cond_true] at hpb;omega
 subst hpb0
 clear hpb
 have hrb0:rb=false:=by
  cases rb
  · rfl
  · simp only [cond_true] at hrb;omega
 subst hrb0
 have hr0:raw=[]:=hrb
 subst hr0
 clear hrb
 unfold Round53 body53
 simp only [Try.f29,firstLoop,Option.getD_some,G53]
 have hat:=hst ⟨⟨0,ng,na,ns⟩,[],[],out++[tkEnd tg]⟩ (by simp [tkStep,rawI,prsI, *])
 simp only [T53,M53,mkS,mkT,mkM,cond_false,List.append_nil,hkd]
 repeat' (first|((first|apply qwd|apply qa1|apply qa2|apply qh1|apply qg1 rfl|apply qcd);(try intro K hk);focus (simp only [lvX53B_29,mkT,go_sem,Nat.reduceEqDiff,Nat.reduceAdd,Nat.reduceLeDiff,Nat.reduceLT,↓reduceIte,reduceCtorEq,hb,hn,encS_eq,ex_St,encTks_len,tok_app53n,List.length_nil,List.length_cons,Int.reduceEq,Int.reduceLE,decide_true,decide_false];first|exact rfl|((repeat refine ai ?_);intros;apply hk;clear hk K)))|apply qw1|refine qwc lvX53B_29 ?_|apply qt1|apply qw5|apply qw2|apply qt4|apply qj1|apply qj4|apply qu1|(refine qj6 ?_ ?_<;>intro hc<;>(try simp only [hc])<;>(try simp only [decide_eq_true_eq,decide_eq_false_iff_not] at hc)<;>(try (exfalso;omega))))
 refine s_againR ((k+1,⟨⟨0,ng,na,ns⟩,[],[],out++[tkEnd tg]⟩,false,false)) (fun i=>if i=0 then 7 else i) ?_ ?_ ?_ ?_ ?_ ?_<;>(first|omega|(dsimp only;omega)|(intro i hi;(try dsimp only);(repeat' split)<;>omega)|(intro i j hi hj h;(try dsimp only at h);(repeat' split at h)<;>omega)|skip)
 all_goals first|(unfold good53;exact ⟨by dsimp only;omega,hat,by simp<;>omega,by simp<;>omega⟩)|(unfold mu53;dsimp only;omega)|(simp [T53,M53,fitsTR,fitsMR,PV.ren,renL,MB.ren,upd_def,PV.nmb,nmbL,MB.nmb,encS_mk,kd53,tkEnd];done)
set_option maxHeartbeats 40000000 in
theorem w53_99 {s:Bs} {k:Nat} {m:Int} {tg ta:Bs} {ts:Bool} {raw:Bs} {ps:List (Bs×Bs)} {out:List TokD} {rb pb:Bool} {b:UInt8} {n:Int} {ng na:Bs} {ns:Bool} {Q:AX→AS→Prop}
 (hsl:s.length≤600) (hkl:k<s.length) (hb:s.getD k 0=b) (hn:step ⟨m,tg,ta,ts⟩ b=⟨n,ng,na,ns⟩) (hx:TkAt s k ⟨⟨m,tg,ta,ts⟩,raw,ps,out⟩)
 (hrb:cond rb (m=0∨10≤m) (raw=[])) (hpb:cond pb (3≤m∧m≤8) (ps=[])) (hm:m=9) (hn0:n=9):Round53 s (k,⟨⟨m,tg,ta,ts⟩,raw,ps,out⟩,rb,pb) Q:=by
 have hok:=hx.ok
 have hoS:okS ⟨m,tg,ta,ts⟩:=okS_of hok.v
 have hoN:=okS_of (stV_step ⟨m,tg,ta,ts⟩ b)
 rw [hn] at hoN
 have hst:=fun y=>hx.step (y:=y) hkl
 rw [hb] at hst
 have hlo:out.length≤k:=hx.lo
 have hlp:ps.length≤k:=hx.lp
 have hbr:raw.length≤k:=hx.bd.raw
 have hbp: ∀ p ∈ ps,bdP k p:=hx.bd.ps
 have hops:4≤m∧m≤8→ ∃ l v,ps=l++[(ta,v)]:=hok.ps
 have hz: ¬ (2≤m∧m≤8)→ps=[]:=hok.z
 have hles:m=14→raw≠[]:=hok.less
 clear hok hx
 have hbl:=byte_lt s k
 rw [hb] at hbl
 try dsimp only at hst
 have hkd:kd53 m=0:=kd53_out (by omega)
 subst hm hn0
 have hp0:ps=[]:=hz (by omega)
 subst hp0
 have hpb0:pb=false:=by
  cases pb
  · rfl
  · simp only [cond_true] at hpb;omega
 subst hpb0
 clear hpb
 have hrb0:rb=false:=by
  cases rb
  · rfl
  · simp only [cond_true] at hrb;omega
 subst hrb0
 have hr0:raw=[]:=hrb
 subst hr0
 clear hrb
 unfold Round53 body53
 simp only [Try.f29,firstLoop,Option.getD_some,G53]
 have hat:=hst ⟨⟨9,ng,na,ns⟩,[],[],out⟩ (by simp [tkStep,rawI,prsI, *])
 simp only [T53,M53,mkS,mkT,mkM,cond_false,List.append_nil,hkd]
 repeat' (first|((first|apply qwd|apply qa1|apply qa2|apply qh1|apply qg1 rfl|apply qcd);(try intro K hk);focus (simp only [lvX53B_29,mkT,go_sem,Nat.reduceEqDiff,Nat.reduceAdd,Nat.reduceLeDiff,↓reduceIte,reduceCtorEq,hb,hn,encS_eq,ex_St,List.length_nil,List.length_cons,Int.reduceEq,Int.reduceLE,decide_true,decide_false];first|exact rfl|((repeat refine ai ?_);intros;apply hk;clear hk K)))|apply qw1|refine qwc lvX53B_29 ?_|apply qt1|apply qw5|apply qw2|apply qt4|apply qj1|apply qj4|apply qu1|(refine qj6 ?_ ?_<;>intro hc<;>(try simp only [hc])<;>(try simp only [decide_eq_true_eq,decide_eq_false_iff_not] at hc)<;>(try (exfalso;omega))))
 refine s_again ((k+1,⟨⟨9,ng,na,ns⟩,[],[],out⟩,false,false)) ?_ ?_ ?_<;>(first|omega|(dsimp only;omega)|skip)
 all_goals first|(unfold good53;exact ⟨by dsimp only;omega,hat,by simp<;>omega,by simp<;>omega⟩)|(unfold mu53;dsimp only;omega)|(simp [T53,M53,fits,fitsT,fitsM,upd_def,PV.nmb,nmbL,MB.nmb,encS_mk,kd53];done)
end Go.Proofs.Ytnbjogilidfkdaa
