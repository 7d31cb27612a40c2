/- Contracts: what a text is divided into (the reference's reading). -/
import Derived.Test.YtnbjogilidfkdaaGreatQX63A
import Derived.Test.YtnbjogilidfkdaaGreatQX63D

namespace Go.Proofs.YtnbjogilidfkdaaGreat
attribute [local irreducible] awp arun acalm FinP Fin AX.then AX.inBlock Again aG gsel amix amixN amixC aop aopc aopd cutK
attribute [local go_sem] aBSliceD aSlice aSliceC boundOf aMk aCall aCallC aLenL aLen aPick_t aPick_f aNil aAlloc aBox aBuild bldPV aBSlice bsPV aApp newsOf destOf drp aConvX aConv aConvInt aLoad cellsAt aStore cellsPV setAt aFld aField aIdx aIndex aUn aBin' aBin aMax aExtract pvOf PV.isCell nmbL PV.nmb List.map_cons List.map_nil List.all_cons List.all_nil Bool.and_true Bool.true_and if_true if_false List.getD_cons_zero List.getD_cons_succ List.getD_nil Option.isSome_some true_and and_true and_self eq_self true_or or_true List.drop_zero List.drop_succ_cons List.drop_nil List.take_zero List.take_succ_cons List.take_nil List.length_cons List.length_nil List.length_map Option.getD_some Option.getD_none List.nil_append List.cons_append List.append_nil Option.some.injEq exists_eq_left' List.getElem?_cons_zero List.getElem?_cons_succ Int.toNat_natCast Int.natCast_inj toNat_succ Nat.zero_add res res1 resC owns owns1 ownsC List.flatMap_cons List.flatMap_nil List.flatten_cons List.flatten_nil List.mem_cons List.not_mem_nil or_false false_or forall_eq forall_eq_or_imp isFro frz frz1 pureC tabA isBld List.cons.injEq PV.seq.injEq PV.int.injEq PV.str.injEq PV.bool.injEq PV.agg.injEq inR tab Γof aRes packR Option.map_some Option.map_none rel Prod.exists exists_and_left exists_eq_left and_assoc beq_self_eq_true Bool.not_true Bool.not_false decide_true decide_false List.set_cons_zero List.set_cons_succ rst_nil rst_cons
attribute [local go_sem ↓] evT upd_def aop aopc aopd
set_option maxRecDepth 100000
set_option linter.unusedVariables false
set_option linter.unusedSimpArgs false
open Go.RowKit
def lvX63_116:Nat→List Nat
 | 0=>[0]
 | 1=>[0,4]
 | 2=>[0,4,5]
 | 3=>[0,4,5,6]
 | 4=>[0,4,5,6,7]
 | 5=>[0,4,5,6,7,8]
 | 6=>[0,4,5,6,7,8,17]
 | 7=>[0,4,5,6,7,8]
 | 8=>[0,4,5,6,7,8,9]
 | 9=>[0,4,5,6,7,8,9,10]
 | 10=>[0,4,5,6,7,8,9,10,30]
 | 11=>[0,4,5,8,9]
 | 12=>[0,4,5,6,8,9]
 | 13=>[0,4,5,6,7,8,9]
 | 14=>[0,4,5,6,7,8,9,10,45]
 | 15=>[0,4,5,7,8,9]
 | 16=>[0,4,5,6,7,8,9]
 | 17=>[0,4,5,6,7,8,9,10,59]
 | 18=>[0,4,5,7,8,9]
 | 19=>[0,4,5,6,7,8,9]
 | 20=>[0,4,5,6,7,8,9,10,74]
 | 21=>[0,4,5,7,8,9]
 | 22=>[0,4,5,7,8,9]
 | 23=>[0,4,5,6,7,8,9]
 | 24=>[0,4,5,6,7,8,9,10,99]
 | 25=>[0,4,5,7,8,9]
 | 26=>[0,4,5,6,7,8,9]
 | 27=>[0,4,5,6,7,8,9,10,112]
 | 28=>[0,4,5,7,8,9]
 | 29=>[0,4,5,6,7,8,9]
 | 30=>[0,4,5,6,7,8,9,10,129]
 | 31=>[0,4,5,6,7,8,9]
 | 32=>[0,4,5,6,7,8]
 | 33=>[0,4,5,6,7,8,158]
 | 34=>[2,3]
 | 35=>[0,4,5]
 | 36=>[4,177]
 | 37=>[2,3]
 | 38=>[2,3]
 | _=>[]
--LV=X63
@[go_sem] def tksC:PC:=rel (α:=Bs) (fun x=>[.str x]) (fun x=>x.length≤1048576) (fun x=> .tup [.seq (encTks ((tokM x).getD [])),.bool (tokM x).isSome])
set_option maxHeartbeats 40000000 in
theorem tok_s:PureOk Tryz.prog 116 tksC:=by
 refine pure_relA 1 (tabA_cons put6_ok (tabA_nil (Γof_ok (tab_cons text_s (tab_cons step_s (tab_cons un_s (tab_cons in_s (tab_cons cl6_s tab_nil)))))))) (tab_cons text_s (tab_cons step_s (tab_cons un_s (tab_cons in_s (tab_cons cl6_s tab_nil))))) mixed [.tmp 2,.tmp 3] Tryz.func116 rfl rfl (by kernel_rfl) (by kernel_rfl) (fun _=>rfl) (by kernel_rfl) ?_
 rintro s K hsl hK
 unfold entry
 repeat' (first|((first|apply qwd|apply qa1|apply qa2|apply qa3|apply qh1|apply qh2|apply qg1 rfl|apply qcd);(try intro K hk);focus (simp only [lvX63_116,mkT,go_sem,Nat.reduceEqDiff,Nat.reduceAdd,Nat.reduceLeDiff,Nat.reduceLT,Nat.reduceSub,Int.reduceToNat,↓reduceIte,reduceCtorEq];first|exact rfl|((repeat refine ai ?_);intros;apply hk;clear hk K)))|apply qw8|apply qw1|refine qwc lvX63_116 ?_|apply qt1|apply qw5|apply qw2|apply qw9|apply qt2|apply qt3|apply qt4|apply qt5|apply qt6|apply qw3|apply qw4|apply qj1|apply qj2|apply qj3|apply qj4|apply qj5|apply qu1|apply qu2|(refine qj6 ?_ ?_<;>intro hc<;>(try simp only [hc])<;>(try simp only [decide_eq_true_eq,decide_eq_false_iff_not,Bool.not_eq_true',Bool.not_eq_false',Bool.not_eq_true,reduceCtorEq] at hc)<;>(try (exfalso;omega)))|(refine qt7 ?_ ?_;focus decide)|(refine qw7 ?_ ?_ ?_;(focus (decide +kernel));(focus (decide +kernel))))
 refine s_loop (T63 s) M63 3 (good63 s) (mu63 s) (0,ts0,true) (by omega) (by unfold good63;exact ⟨Nat.zero_le _,TsAt.zero s,fun _=>rfl⟩) ?_ ?_
 · simp [T63,M63,fits,fitsT,fitsM,upd_def,PV.nmb,nmbL,MB.nmb,List.getD_cons_zero,List.getD_cons_succ,ts0,st0,encS_mk,encTks_nil]
 rintro ⟨k,x,pb⟩ ⟨hk,hx,hpb⟩
 dsimp only at hk hx hpb
 by_cases hkl:k<s.length
 · have hm0:=step_modes hx.v (s.getD k 0)
   have hv:=hx.v
   obtain ⟨⟨m,tg,ta,ts⟩,buf,ps,out⟩:=x
   dsimp only at hm0 hv hpb
   generalize hb:s.getD k 0=b at *
   have hsn:=step_seen (b:=b) hv rfl
   have hvn:=stV_step ⟨m,tg,ta,ts⟩ b
   generalize hn:step ⟨m,tg,ta,ts⟩ b=nn at *
   obtain ⟨n,ng,na,ns⟩:=nn
   dsimp only at hm0 hsn
   have hs1:ns=true→6≤n∧n≤8:=by
    intro h
    rw [hsn] at h
    split at h
    · omega
    · have:=of_decide_eq_true h
      omega
   have hmo:=modes hv
   dsimp only at hmo
   have hfin:tokM s=none→ ∀ σ j,σ.tmp 2= .own j→σ.mem j=some (.row 68 4 [])→σ.tmp 3= .bool false→FinP Tryz.prog [.tmp 2,.tmp 3] K .ret σ:=by
    intro e σ j h1 h2 h3
    obtain ⟨τ,mm,nx⟩:=σ
    dsimp only at h1 h2 h3
    rw [e] at hK
    refine fin_ret ?_
    simp only [go_sem,h1,h2,h3,not_false_eq_true,ne_eq,↓upd_def,Nat.reduceEqDiff,Nat.reduceAdd,↓reduceIte,reduceCtorEq]
    exact hK
   clear hsn
   cases ns with
   | true =>
     obtain ⟨q1,q2⟩:=hs1 rfl
     clear hs1
     rcases hm0 with hm1|⟨hm1,_⟩|⟨hm1,_⟩|⟨hm1,_⟩|⟨hm1,_⟩|⟨hm1,_⟩|⟨hm1,_⟩|⟨hm1,_⟩|⟨hm1,_⟩|⟨hm1,_⟩|⟨hm1,h|h⟩|⟨hm1,h|h⟩|⟨hm1,h|h|h⟩|⟨hm1,h⟩|⟨hm1,h⟩|⟨hm1,h⟩
     all_goals first
      | (exfalso;omega)
      | (refine w63_7e hsl hkl hb hn hx hpb ?_ (by omega) (by omega) rfl;intro e σ j h1 h2 h3;have hh:=hfin e σ j h1 h2 h3;obtain ⟨τ,mm,nx⟩:=σ;(repeat' (first|((first|apply qwd|apply qa1|apply qa2|apply qa3|apply qh1|apply qh2|apply qg1 rfl|apply qcd);(try intro K hk);focus (simp only [lvX63_116,mkT,go_sem,Nat.reduceEqDiff,Nat.reduceAdd,Nat.reduceLeDiff,Nat.reduceLT,Nat.reduceSub,Int.reduceToNat,↓reduceIte,reduceCtorEq];first|exact rfl|((repeat refine ai ?_);intros;apply hk;clear hk K)))|apply qw8|apply qw1|refine qwc lvX63_116 ?_|apply qt1|apply qw5|apply qw2|apply qw9|apply qt2|apply qt3|apply qt4|apply qt5|apply qt6|apply qw3|apply qw4|apply qj1|apply qj2|apply qj3|apply qj4|apply qj5|apply qu1|apply qu2|(refine qj6 ?_ ?_<;>intro hc<;>(try simp only [hc])<;>(try simp only [decide_eq_true_eq,decide_eq_false_iff_not,Bool.not_eq_true',Bool.not_eq_false',Bool.not_eq_true,reduceCtorEq] at hc)<;>(try (exfalso;omega)))|(refine qt7 ?_ ?_;focus decide)|(refine qw7 ?_ ?_ ?_;(focus (decide +kernel));(focus (decide +kernel)))));exact hh)
   | false =>
     clear hs1
     clear hm0
     have hm1:m=0∨m=1∨(2≤m∧m≤8)∨m=9∨m=10∨(11≤m∧m≤13)∨m=14∨m=15:=by omega
     rcases hm1 with hm1|hm1|hm1|hm1|hm1|hm1|hm1|hm1
     · by_cases hn1:n=1
       · refine w63_1 hsl hkl hb hn hx hpb ?_ (by omega) (by omega)
         intro e σ j h1 h2 h3;have hh:=hfin e σ j h1 h2 h3;obtain ⟨τ,mm,nx⟩:=σ;(repeat' (first|((first|apply qwd|apply qa1|apply qa2|apply qa3|apply qh1|apply qh2|apply qg1 rfl|apply qcd);(try intro K hk);focus (simp only [lvX63_116,mkT,go_sem,Nat.reduceEqDiff,Nat.reduceAdd,Nat.reduceLeDiff,Nat.reduceLT,Nat.reduceSub,Int.reduceToNat,↓reduceIte,reduceCtorEq];first|exact rfl|((repeat refine ai ?_);intros;apply hk;clear hk K)))|apply qw8|apply qw1|refine qwc lvX63_116 ?_|apply qt1|apply qw5|apply qw2|apply qw9|apply qt2|apply qt3|apply qt4|apply qt5|apply qt6|apply qw3|apply qw4|apply qj1|apply qj2|apply qj3|apply qj4|apply qj5|apply qu1|apply qu2|(refine qj6 ?_ ?_<;>intro hc<;>(try simp only [hc])<;>(try simp only [decide_eq_true_eq,decide_eq_false_iff_not,Bool.not_eq_true',Bool.not_eq_false',Bool.not_eq_true,reduceCtorEq] at hc)<;>(try (exfalso;omega)))|(refine qt7 ?_ ?_;focus decide)|(refine qw7 ?_ ?_ ?_;(focus (decide +kernel));(focus (decide +kernel)))));exact hh
       · refine w63_7a hsl hkl hb hn hx hpb ?_ (by omega) (by omega)
         intro e σ j h1 h2 h3;have hh:=hfin e σ j h1 h2 h3;obtain ⟨τ,mm,nx⟩:=σ;(repeat' (first|((first|apply qwd|apply qa1|apply qa2|apply qa3|apply qh1|apply qh2|apply qg1 rfl|apply qcd);(try intro K hk);focus (simp only [lvX63_116,mkT,go_sem,Nat.reduceEqDiff,Nat.reduceAdd,Nat.reduceLeDiff,Nat.reduceLT,Nat.reduceSub,Int.reduceToNat,↓reduceIte,reduceCtorEq];first|exact rfl|((repeat refine ai ?_);intros;apply hk;clear hk K)))|apply qw8|apply qw1|refine qwc lvX63_116 ?_|apply qt1|apply qw5|apply qw2|apply qw9|apply qt2|apply qt3|apply qt4|apply qt5|apply qt6|apply qw3|apply qw4|apply qj1|apply qj2|apply qj3|apply qj4|apply qj5|apply qu1|apply qu2|(refine qj6 ?_ ?_<;>intro hc<;>(try simp only [hc])<;>(try simp only [decide_eq_true_eq,decide_eq_false_iff_not,Bool.not_eq_true',Bool.not_eq_false',Bool.not_eq_true,reduceCtorEq] at hc)<;>(try (exfalso;omega)))|(refine qt7 ?_ ?_;focus decide)|(refine qw7 ?_ ?_ ?_;(focus (decide +kernel));(focus (decide +kernel)))));exact hh
     · refine w63_8a hsl hkl hb hn hx hpb ?_ (by omega) rfl
       intro e σ j h1 h2 h3;have hh:=hfin e σ j h1 h2 h3;obtain ⟨τ,mm,nx⟩:=σ;(repeat' (first|((first|apply qwd|apply qa1|apply qa2|apply qa3|apply qh1|apply qh2|apply qg1 rfl|apply qcd);(try intro K hk);focus (simp only [lvX63_116,mkT,go_sem,Nat.reduceEqDiff,Nat.reduceAdd,Nat.reduceLeDiff,Nat.reduceLT,Nat.reduceSub,Int.reduceToNat,↓reduceIte,reduceCtorEq];first|exact rfl|((repeat refine ai ?_);intros;apply hk;clear hk K)))|apply qw8|apply qw1|refine qwc lvX63_116 ?_|apply qt1|apply qw5|apply qw2|apply qw9|apply qt2|apply qt3|apply qt4|apply qt5|apply qt6|apply qw3|apply qw4|apply qj1|apply qj2|apply qj3|apply qj4|apply qj5|apply qu1|apply qu2|(refine qj6 ?_ ?_<;>intro hc<;>(try simp only [hc])<;>(try simp only [decide_eq_true_eq,decide_eq_false_iff_not,Bool.not_eq_true',Bool.not_eq_false',Bool.not_eq_true,reduceCtorEq] at hc)<;>(try (exfalso;omega)))|(refine qt7 ?_ ?_;focus decide)|(refine qw7 ?_ ?_ ?_;(focus (decide +kernel));(focus (decide +kernel)))));exact hh
     · by_cases hn1:n=0
       · refine w63_4 hsl hkl hb hn hx hpb ?_ (by omega) (by omega)
         intro e σ j h1 h2 h3;have hh:=hfin e σ j h1 h2 h3;obtain ⟨τ,mm,nx⟩:=σ;(repeat' (first|((first|apply qwd|apply qa1|apply qa2|apply qa3|apply qh1|apply qh2|apply qg1 rfl|apply qcd);(try intro K hk);focus (simp only [lvX63_116,mkT,go_sem,Nat.reduceEqDiff,Nat.reduceAdd,Nat.reduceLeDiff,Nat.reduceLT,Nat.reduceSub,Int.reduceToNat,↓reduceIte,reduceCtorEq];first|exact rfl|((repeat refine ai ?_);intros;apply hk;clear hk K)))|apply qw8|apply qw1|refine qwc lvX63_116 ?_|apply qt1|apply qw5|apply qw2|apply qw9|apply qt2|apply qt3|apply qt4|apply qt5|apply qt6|apply qw3|apply qw4|apply qj1|apply qj2|apply qj3|apply qj4|apply qj5|apply qu1|apply qu2|(refine qj6 ?_ ?_<;>intro hc<;>(try simp only [hc])<;>(try simp only [decide_eq_true_eq,decide_eq_false_iff_not,Bool.not_eq_true',Bool.not_eq_false',Bool.not_eq_true,reduceCtorEq] at hc)<;>(try (exfalso;omega)))|(refine qt7 ?_ ?_;focus decide)|(refine qw7 ?_ ?_ ?_;(focus (decide +kernel));(focus (decide +kernel)))));exact hh
       by_cases hn2:n=11
       · refine w63_4b hsl hkl hb hn hx hpb ?_ (by omega) (by omega)
         intro e σ j h1 h2 h3;have hh:=hfin e σ j h1 h2 h3;obtain ⟨τ,mm,nx⟩:=σ;(repeat' (first|((first|apply qwd|apply qa1|apply qa2|apply qa3|apply qh1|apply qh2|apply qg1 rfl|apply qcd);(try intro K hk);focus (simp only [lvX63_116,mkT,go_sem,Nat.reduceEqDiff,Nat.reduceAdd,Nat.reduceLeDiff,Nat.reduceLT,Nat.reduceSub,Int.reduceToNat,↓reduceIte,reduceCtorEq];first|exact rfl|((repeat refine ai ?_);intros;apply hk;clear hk K)))|apply qw8|apply qw1|refine qwc lvX63_116 ?_|apply qt1|apply qw5|apply qw2|apply qw9|apply qt2|apply qt3|apply qt4|apply qt5|apply qt6|apply qw3|apply qw4|apply qj1|apply qj2|apply qj3|apply qj4|apply qj5|apply qu1|apply qu2|(refine qj6 ?_ ?_<;>intro hc<;>(try simp only [hc])<;>(try simp only [decide_eq_true_eq,decide_eq_false_iff_not,Bool.not_eq_true',Bool.not_eq_false',Bool.not_eq_true,reduceCtorEq] at hc)<;>(try (exfalso;omega)))|(refine qt7 ?_ ?_;focus decide)|(refine qw7 ?_ ?_ ?_;(focus (decide +kernel));(focus (decide +kernel)))));exact hh
       by_cases hn3:n=3
       · refine w63_5 hsl hkl hb hn hx hpb ?_ (by omega) (by omega)
         intro e σ j h1 h2 h3;have hh:=hfin e σ j h1 h2 h3;obtain ⟨τ,mm,nx⟩:=σ;(repeat' (first|((first|apply qwd|apply qa1|apply qa2|apply qa3|apply qh1|apply qh2|apply qg1 rfl|apply qcd);(try intro K hk);focus (simp only [lvX63_116,mkT,go_sem,Nat.reduceEqDiff,Nat.reduceAdd,Nat.reduceLeDiff,Nat.reduceLT,Nat.reduceSub,Int.reduceToNat,↓reduceIte,reduceCtorEq];first|exact rfl|((repeat refine ai ?_);intros;apply hk;clear hk K)))|apply qw8|apply qw1|refine qwc lvX63_116 ?_|apply qt1|apply qw5|apply qw2|apply qw9|apply qt2|apply qt3|apply qt4|apply qt5|apply qt6|apply qw3|apply qw4|apply qj1|apply qj2|apply qj3|apply qj4|apply qj5|apply qu1|apply qu2|(refine qj6 ?_ ?_<;>intro hc<;>(try simp only [hc])<;>(try simp only [decide_eq_true_eq,decide_eq_false_iff_not,Bool.not_eq_true',Bool.not_eq_false',Bool.not_eq_true,reduceCtorEq] at hc)<;>(try (exfalso;omega)))|(refine qt7 ?_ ?_;focus decide)|(refine qw7 ?_ ?_ ?_;(focus (decide +kernel));(focus (decide +kernel)))));exact hh
       · refine w63_8c hsl hkl hb hn hx hpb ?_ (by omega) (by omega) rfl
         intro e σ j h1 h2 h3;have hh:=hfin e σ j h1 h2 h3;obtain ⟨τ,mm,nx⟩:=σ;(repeat' (first|((first|apply qwd|apply qa1|apply qa2|apply qa3|apply qh1|apply qh2|apply qg1 rfl|apply qcd);(try intro K hk);focus (simp only [lvX63_116,mkT,go_sem,Nat.reduceEqDiff,Nat.reduceAdd,Nat.reduceLeDiff,Nat.reduceLT,Nat.reduceSub,Int.reduceToNat,↓reduceIte,reduceCtorEq];first|exact rfl|((repeat refine ai ?_);intros;apply hk;clear hk K)))|apply qw8|apply qw1|refine qwc lvX63_116 ?_|apply qt1|apply qw5|apply qw2|apply qw9|apply qt2|apply qt3|apply qt4|apply qt5|apply qt6|apply qw3|apply qw4|apply qj1|apply qj2|apply qj3|apply qj4|apply qj5|apply qu1|apply qu2|(refine qj6 ?_ ?_<;>intro hc<;>(try simp only [hc])<;>(try simp only [decide_eq_true_eq,decide_eq_false_iff_not,Bool.not_eq_true',Bool.not_eq_false',Bool.not_eq_true,reduceCtorEq] at hc)<;>(try (exfalso;omega)))|(refine qt7 ?_ ?_;focus decide)|(refine qw7 ?_ ?_ ?_;(focus (decide +kernel));(focus (decide +kernel)))));exact hh
     · by_cases hn1:n=0
       · refine w63_3 hsl hkl hb hn hx hpb ?_ (by omega) (by omega)
         intro e σ j h1 h2 h3;have hh:=hfin e σ j h1 h2 h3;obtain ⟨τ,mm,nx⟩:=σ;(repeat' (first|((first|apply qwd|apply qa1|apply qa2|apply qa3|apply qh1|apply qh2|apply qg1 rfl|apply qcd);(try intro K hk);focus (simp only [lvX63_116,mkT,go_sem,Nat.reduceEqDiff,Nat.reduceAdd,Nat.reduceLeDiff,Nat.reduceLT,Nat.reduceSub,Int.reduceToNat,↓reduceIte,reduceCtorEq];first|exact rfl|((repeat refine ai ?_);intros;apply hk;clear hk K)))|apply qw8|apply qw1|refine qwc lvX63_116 ?_|apply qt1|apply qw5|apply qw2|apply qw9|apply qt2|apply qt3|apply qt4|apply qt5|apply qt6|apply qw3|apply qw4|apply qj1|apply qj2|apply qj3|apply qj4|apply qj5|apply qu1|apply qu2|(refine qj6 ?_ ?_<;>intro hc<;>(try simp only [hc])<;>(try simp only [decide_eq_true_eq,decide_eq_false_iff_not,Bool.not_eq_true',Bool.not_eq_false',Bool.not_eq_true,reduceCtorEq] at hc)<;>(try (exfalso;omega)))|(refine qt7 ?_ ?_;focus decide)|(refine qw7 ?_ ?_ ?_;(focus (decide +kernel));(focus (decide +kernel)))));exact hh
       · refine w63_8b hsl hkl hb hn hx hpb ?_ (by omega) (by omega) rfl
         intro e σ j h1 h2 h3;have hh:=hfin e σ j h1 h2 h3;obtain ⟨τ,mm,nx⟩:=σ;(repeat' (first|((first|apply qwd|apply qa1|apply qa2|apply qa3|apply qh1|apply qh2|apply qg1 rfl|apply qcd);(try intro K hk);focus (simp only [lvX63_116,mkT,go_sem,Nat.reduceEqDiff,Nat.reduceAdd,Nat.reduceLeDiff,Nat.reduceLT,Nat.reduceSub,Int.reduceToNat,↓reduceIte,reduceCtorEq];first|exact rfl|((repeat refine ai ?_);intros;apply hk;clear hk K)))|apply qw8|apply qw1|refine qwc lvX63_116 ?_|apply qt1|apply qw5|apply qw2|apply qw9|apply qt2|apply qt3|apply qt4|apply qt5|apply qt6|apply qw3|apply qw4|apply qj1|apply qj2|apply qj3|apply qj4|apply qj5|apply qu1|apply qu2|(refine qj6 ?_ ?_<;>intro hc<;>(try simp only [hc])<;>(try simp only [decide_eq_true_eq,decide_eq_false_iff_not,Bool.not_eq_true',Bool.not_eq_false',Bool.not_eq_true,reduceCtorEq] at hc)<;>(try (exfalso;omega)))|(refine qt7 ?_ ?_;focus decide)|(refine qw7 ?_ ?_ ?_;(focus (decide +kernel));(focus (decide +kernel)))));exact hh
     · by_cases hn1:n=0
       · refine w63_2 hsl hkl hb hn hx hpb ?_ (by omega) (by omega)
         intro e σ j h1 h2 h3;have hh:=hfin e σ j h1 h2 h3;obtain ⟨τ,mm,nx⟩:=σ;(repeat' (first|((first|apply qwd|apply qa1|apply qa2|apply qa3|apply qh1|apply qh2|apply qg1 rfl|apply qcd);(try intro K hk);focus (simp only [lvX63_116,mkT,go_sem,Nat.reduceEqDiff,Nat.reduceAdd,Nat.reduceLeDiff,Nat.reduceLT,Nat.reduceSub,Int.reduceToNat,↓reduceIte,reduceCtorEq];first|exact rfl|((repeat refine ai ?_);intros;apply hk;clear hk K)))|apply qw8|apply qw1|refine qwc lvX63_116 ?_|apply qt1|apply qw5|apply qw2|apply qw9|apply qt2|apply qt3|apply qt4|apply qt5|apply qt6|apply qw3|apply qw4|apply qj1|apply qj2|apply qj3|apply qj4|apply qj5|apply qu1|apply qu2|(refine qj6 ?_ ?_<;>intro hc<;>(try simp only [hc])<;>(try simp only [decide_eq_true_eq,decide_eq_false_iff_not,Bool.not_eq_true',Bool.not_eq_false',Bool.not_eq_true,reduceCtorEq] at hc)<;>(try (exfalso;omega)))|(refine qt7 ?_ ?_;focus decide)|(refine qw7 ?_ ?_ ?_;(focus (decide +kernel));(focus (decide +kernel)))));exact hh
       · refine w63_7b hsl hkl hb hn hx hpb ?_ (by omega) (by omega)
         intro e σ j h1 h2 h3;have hh:=hfin e σ j h1 h2 h3;obtain ⟨τ,mm,nx⟩:=σ;(repeat' (first|((first|apply qwd|apply qa1|apply qa2|apply qa3|apply qh1|apply qh2|apply qg1 rfl|apply qcd);(try intro K hk);focus (simp only [lvX63_116,mkT,go_sem,Nat.reduceEqDiff,Nat.reduceAdd,Nat.reduceLeDiff,Nat.reduceLT,Nat.reduceSub,Int.reduceToNat,↓reduceIte,reduceCtorEq];first|exact rfl|((repeat refine ai ?_);intros;apply hk;clear hk K)))|apply qw8|apply qw1|refine qwc lvX63_116 ?_|apply qt1|apply qw5|apply qw2|apply qw9|apply qt2|apply qt3|apply qt4|apply qt5|apply qt6|apply qw3|apply qw4|apply qj1|apply qj2|apply qj3|apply qj4|apply qj5|apply qu1|apply qu2|(refine qj6 ?_ ?_<;>intro hc<;>(try simp only [hc])<;>(try simp only [decide_eq_true_eq,decide_eq_false_iff_not,Bool.not_eq_true',Bool.not_eq_false',Bool.not_eq_true,reduceCtorEq] at hc)<;>(try (exfalso;omega)))|(refine qt7 ?_ ?_;focus decide)|(refine qw7 ?_ ?_ ?_;(focus (decide +kernel));(focus (decide +kernel)))));exact hh
     · refine w63_7c hsl hkl hb hn hx hpb ?_ (by omega)
       intro e σ j h1 h2 h3;have hh:=hfin e σ j h1 h2 h3;obtain ⟨τ,mm,nx⟩:=σ;(repeat' (first|((first|apply qwd|apply qa1|apply qa2|apply qa3|apply qh1|apply qh2|apply qg1 rfl|apply qcd);(try intro K hk);focus (simp only [lvX63_116,mkT,go_sem,Nat.reduceEqDiff,Nat.reduceAdd,Nat.reduceLeDiff,Nat.reduceLT,Nat.reduceSub,Int.reduceToNat,↓reduceIte,reduceCtorEq];first|exact rfl|((repeat refine ai ?_);intros;apply hk;clear hk K)))|apply qw8|apply qw1|refine qwc lvX63_116 ?_|apply qt1|apply qw5|apply qw2|apply qw9|apply qt2|apply qt3|apply qt4|apply qt5|apply qt6|apply qw3|apply qw4|apply qj1|apply qj2|apply qj3|apply qj4|apply qj5|apply qu1|apply qu2|(refine qj6 ?_ ?_<;>intro hc<;>(try simp only [hc])<;>(try simp only [decide_eq_true_eq,decide_eq_false_iff_not,Bool.not_eq_true',Bool.not_eq_false',Bool.not_eq_true,reduceCtorEq] at hc)<;>(try (exfalso;omega)))|(refine qt7 ?_ ?_;focus decide)|(refine qw7 ?_ ?_ ?_;(focus (decide +kernel));(focus (decide +kernel)))));exact hh
     · by_cases hn1:n=9
       · refine w63_6 hsl hkl hb hn hx hpb ?_ (by omega) (by omega)
         intro e σ j h1 h2 h3;have hh:=hfin e σ j h1 h2 h3;obtain ⟨τ,mm,nx⟩:=σ;(repeat' (first|((first|apply qwd|apply qa1|apply qa2|apply qa3|apply qh1|apply qh2|apply qg1 rfl|apply qcd);(try intro K hk);focus (simp only [lvX63_116,mkT,go_sem,Nat.reduceEqDiff,Nat.reduceAdd,Nat.reduceLeDiff,Nat.reduceLT,Nat.reduceSub,Int.reduceToNat,↓reduceIte,reduceCtorEq];first|exact rfl|((repeat refine ai ?_);intros;apply hk;clear hk K)))|apply qw8|apply qw1|refine qwc lvX63_116 ?_|apply qt1|apply qw5|apply qw2|apply qw9|apply qt2|apply qt3|apply qt4|apply qt5|apply qt6|apply qw3|apply qw4|apply qj1|apply qj2|apply qj3|apply qj4|apply qj5|apply qu1|apply qu2|(refine qj6 ?_ ?_<;>intro hc<;>(try simp only [hc])<;>(try simp only [decide_eq_true_eq,decide_eq_false_iff_not,Bool.not_eq_true',Bool.not_eq_false',Bool.not_eq_true,reduceCtorEq] at hc)<;>(try (exfalso;omega)))|(refine qt7 ?_ ?_;focus decide)|(refine qw7 ?_ ?_ ?_;(focus (decide +kernel));(focus (decide +kernel)))));exact hh
       · refine w63_7d hsl hkl hb hn hx hpb ?_ (by omega) (by omega)
         intro e σ j h1 h2 h3;have hh:=hfin e σ j h1 h2 h3;obtain ⟨τ,mm,nx⟩:=σ;(repeat' (first|((first|apply qwd|apply qa1|apply qa2|apply qa3|apply qh1|apply qh2|apply qg1 rfl|apply qcd);(try intro K hk);focus (simp only [lvX63_116,mkT,go_sem,Nat.reduceEqDiff,Nat.reduceAdd,Nat.reduceLeDiff,Nat.reduceLT,Nat.reduceSub,Int.reduceToNat,↓reduceIte,reduceCtorEq];first|exact rfl|((repeat refine ai ?_);intros;apply hk;clear hk K)))|apply qw8|apply qw1|refine qwc lvX63_116 ?_|apply qt1|apply qw5|apply qw2|apply qw9|apply qt2|apply qt3|apply qt4|apply qt5|apply qt6|apply qw3|apply qw4|apply qj1|apply qj2|apply qj3|apply qj4|apply qj5|apply qu1|apply qu2|(refine qj6 ?_ ?_<;>intro hc<;>(try simp only [hc])<;>(try simp only [decide_eq_true_eq,decide_eq_false_iff_not,Bool.not_eq_true',Bool.not_eq_false',Bool.not_eq_true,reduceCtorEq] at hc)<;>(try (exfalso;omega)))|(refine qt7 ?_ ?_;focus decide)|(refine qw7 ?_ ?_ ?_;(focus (decide +kernel));(focus (decide +kernel)))));exact hh
     · refine w63_8d hsl hkl hb hn hx hpb ?_ (by omega) rfl
       intro e σ j h1 h2 h3;have hh:=hfin e σ j h1 h2 h3;obtain ⟨τ,mm,nx⟩:=σ;(repeat' (first|((first|apply qwd|apply qa1|apply qa2|apply qa3|apply qh1|apply qh2|apply qg1 rfl|apply qcd);(try intro K hk);focus (simp only [lvX63_116,mkT,go_sem,Nat.reduceEqDiff,Nat.reduceAdd,Nat.reduceLeDiff,Nat.reduceLT,Nat.reduceSub,Int.reduceToNat,↓reduceIte,reduceCtorEq];first|exact rfl|((repeat refine ai ?_);intros;apply hk;clear hk K)))|apply qw8|apply qw1|refine qwc lvX63_116 ?_|apply qt1|apply qw5|apply qw2|apply qw9|apply qt2|apply qt3|apply qt4|apply qt5|apply qt6|apply qw3|apply qw4|apply qj1|apply qj2|apply qj3|apply qj4|apply qj5|apply qu1|apply qu2|(refine qj6 ?_ ?_<;>intro hc<;>(try simp only [hc])<;>(try simp only [decide_eq_true_eq,decide_eq_false_iff_not,Bool.not_eq_true',Bool.not_eq_false',Bool.not_eq_true,reduceCtorEq] at hc)<;>(try (exfalso;omega)))|(refine qt7 ?_ ?_;focus decide)|(refine qw7 ?_ ?_ ?_;(focus (decide +kernel));(focus (decide +kernel)))));exact hh
 · obtain rfl:k=s.length:=by omega
   have hf:=hx.fin (Nat.le_refl _)
   have hlo:=hx.lo
   have hbr:=hx.buf
   clear hx
   obtain ⟨⟨m,tg,ta,ts⟩,buf,ps,out⟩:=x
   dsimp only at *
   have hpl:=putTk_len out (tkText (unT buf))
   have hpe:putTk out ⟨1,[],unT buf,[]⟩=putTk out (tkText (unT buf)):=rfl
   have hul:=unT_len buf
   unfold tsFin at hf
   dsimp only at hf
   by_cases hm:m=0
   · subst hm
     cases ht:textB s with
     | false =>
       rw [ht,if_neg (by decide)] at hf
       rw [hf] at hK
       cases pb<;>simp only [T63,M63,mkS,mkT,mkM,cond_true,cond_false,List.append_nil,List.cons_append,List.nil_append]
       all_goals
        repeat' (first|((first|apply qwd|apply qa1|apply qa2|apply qa3|apply qh1|apply qh2|apply qg1 rfl|apply qcd);(try intro K hk);focus (simp only [lvX63_116,mkT,go_sem,Nat.reduceEqDiff,Nat.reduceAdd,Nat.reduceLeDiff,Nat.reduceLT,Nat.reduceSub,Int.reduceToNat,↓reduceIte,reduceCtorEq,ht,exl,encTks_iff,prs_nil,hpe,encS_eq,ex_St,encS_mk,encTks_len,encPrs_len,encTks_all,encPrs_all,List.length_nil,Int.reduceEq,gt_iff_lt,decide_true,decide_false,Bool.not_true,Bool.not_false];first|exact rfl|((repeat refine ai ?_);intros;apply hk;clear hk K)))|apply qw8|apply qw1|refine qwc lvX63_116 ?_|apply qt1|apply qw5|apply qw2|apply qw9|apply qt2|apply qt3|apply qt4|apply qt5|apply qt6|apply qw3|apply qw4|apply qj1|apply qj2|apply qj3|apply qj4|apply qj5|apply qu1|apply qu2|(refine qj6 ?_ ?_<;>intro hc<;>(try simp only [hc])<;>(try simp only [decide_eq_true_eq,decide_eq_false_iff_not,Bool.not_eq_true',Bool.not_eq_false',Bool.not_eq_true,reduceCtorEq] at hc)<;>(try (exfalso;omega)))|(refine qt7 ?_ ?_;focus decide)|(refine qw7 ?_ ?_ ?_;(focus (decide +kernel));(focus (decide +kernel))))
        ((first|refine fin_ret ?_|refine fin_end ?_);simp only [go_sem,↓upd_def,Nat.reduceEqDiff,Nat.reduceAdd,↓reduceIte,reduceCtorEq])
        exact hK
     | true =>
       rw [ht,if_pos rfl] at hf
       by_cases h60:(putTk out (tkText (unT buf))).length≤60
       · rw [if_neg (by omega)] at hf
         rw [hf] at hK
         cases pb<;>simp only [T63,M63,mkS,mkT,mkM,cond_true,cond_false,List.append_nil,List.cons_append,List.nil_append]
         all_goals
          repeat' (first|((first|apply qwd|apply qa1|apply qa2|apply qa3|apply qh1|apply qh2|apply qg1 rfl|apply qcd);(try intro K hk);focus (simp only [lvX63_116,mkT,go_sem,Nat.reduceEqDiff,Nat.reduceAdd,Nat.reduceLeDiff,Nat.reduceLT,Nat.reduceSub,Int.reduceToNat,↓reduceIte,reduceCtorEq,ht,exl,encTks_iff,prs_nil,hpe,encS_eq,ex_St,encS_mk,encTks_len,encPrs_len,encTks_all,encPrs_all,List.length_nil,Int.reduceEq,gt_iff_lt,decide_true,decide_false,Bool.not_true,Bool.not_false];first|exact rfl|((repeat refine ai ?_);intros;apply hk;clear hk K)))|apply qw8|apply qw1|refine qwc lvX63_116 ?_|apply qt1|apply qw5|apply qw2|apply qw9|apply qt2|apply qt3|apply qt4|apply qt5|apply qt6|apply qw3|apply qw4|apply qj1|apply qj2|apply qj3|apply qj4|apply qj5|apply qu1|apply qu2|(refine qj6 ?_ ?_<;>intro hc<;>(try simp only [hc])<;>(try simp only [decide_eq_true_eq,decide_eq_false_iff_not,Bool.not_eq_true',Bool.not_eq_false',Bool.not_eq_true,reduceCtorEq] at hc)<;>(try (exfalso;omega)))|(refine qt7 ?_ ?_;focus decide)|(refine qw7 ?_ ?_ ?_;(focus (decide +kernel));(focus (decide +kernel))))
          ((first|refine fin_ret ?_|refine fin_end ?_);simp only [go_sem,↓upd_def,Nat.reduceEqDiff,Nat.reduceAdd,↓reduceIte,reduceCtorEq])
          exact hK
       · rw [if_pos (by omega)] at hf
         rw [hf] at hK
         cases pb<;>simp only [T63,M63,mkS,mkT,mkM,cond_true,cond_false,List.append_nil,List.cons_append,List.nil_append]
         all_goals
          repeat' (first|((first|apply qwd|apply qa1|apply qa2|apply qa3|apply qh1|apply qh2|apply qg1 rfl|apply qcd);(try intro K hk);focus (simp only [lvX63_116,mkT,go_sem,Nat.reduceEqDiff,Nat.reduceAdd,Nat.reduceLeDiff,Nat.reduceLT,Nat.reduceSub,Int.reduceToNat,↓reduceIte,reduceCtorEq,ht,exl,encTks_iff,prs_nil,hpe,encS_eq,ex_St,encS_mk,encTks_len,encPrs_len,encTks_all,encPrs_all,List.length_nil,Int.reduceEq,gt_iff_lt,decide_true,decide_false,Bool.not_true,Bool.not_false];first|exact rfl|((repeat refine ai ?_);intros;apply hk;clear hk K)))|apply qw8|apply qw1|refine qwc lvX63_116 ?_|apply qt1|apply qw5|apply qw2|apply qw9|apply qt2|apply qt3|apply qt4|apply qt5|apply qt6|apply qw3|apply qw4|apply qj1|apply qj2|apply qj3|apply qj4|apply qj5|apply qu1|apply qu2|(refine qj6 ?_ ?_<;>intro hc<;>(try simp only [hc])<;>(try simp only [decide_eq_true_eq,decide_eq_false_iff_not,Bool.not_eq_true',Bool.not_eq_false',Bool.not_eq_true,reduceCtorEq] at hc)<;>(try (exfalso;omega)))|(refine qt7 ?_ ?_;focus decide)|(refine qw7 ?_ ?_ ?_;(focus (decide +kernel));(focus (decide +kernel))))
          ((first|refine fin_ret ?_|refine fin_end ?_);simp only [go_sem,↓upd_def,Nat.reduceEqDiff,Nat.reduceAdd,↓reduceIte,reduceCtorEq])
          exact hK
   · have hf:tokM s=none:=by
      rw [hf]
      split
      · rw [if_pos (.inl hm)]
      · rfl
     rw [hf] at hK
     cases pb<;>simp only [T63,M63,mkS,mkT,mkM,cond_true,cond_false,List.append_nil,List.cons_append,List.nil_append]
     all_goals
      repeat' (first|((first|apply qwd|apply qa1|apply qa2|apply qa3|apply qh1|apply qh2|apply qg1 rfl|apply qcd);(try intro K hk);focus (simp only [lvX63_116,mkT,go_sem,Nat.reduceEqDiff,Nat.reduceAdd,Nat.reduceLeDiff,Nat.reduceLT,Nat.reduceSub,Int.reduceToNat,↓reduceIte,reduceCtorEq,hm,exl,encTks_iff,prs_nil,hpe,encS_eq,ex_St,encS_mk,encTks_len,encPrs_len,encTks_all,encPrs_all,List.length_nil,Int.reduceEq,gt_iff_lt,decide_true,decide_false,Bool.not_true,Bool.not_false];first|exact rfl|((repeat refine ai ?_);intros;apply hk;clear hk K)))|apply qw8|apply qw1|refine qwc lvX63_116 ?_|apply qt1|apply qw5|apply qw2|apply qw9|apply qt2|apply qt3|apply qt4|apply qt5|apply qt6|apply qw3|apply qw4|apply qj1|apply qj2|apply qj3|apply qj4|apply qj5|apply qu1|apply qu2|(refine qj6 ?_ ?_<;>intro hc<;>(try simp only [hc])<;>(try simp only [decide_eq_true_eq,decide_eq_false_iff_not,Bool.not_eq_true',Bool.not_eq_false',Bool.not_eq_true,reduceCtorEq] at hc)<;>(try (exfalso;omega)))|(refine qt7 ?_ ?_;focus decide)|(refine qw7 ?_ ?_ ?_;(focus (decide +kernel));(focus (decide +kernel))))
      ((first|refine fin_ret ?_|refine fin_end ?_);simp only [go_sem,↓upd_def,Nat.reduceEqDiff,Nat.reduceAdd,↓reduceIte,reduceCtorEq])
      exact hK
end Go.Proofs.YtnbjogilidfkdaaGreat
