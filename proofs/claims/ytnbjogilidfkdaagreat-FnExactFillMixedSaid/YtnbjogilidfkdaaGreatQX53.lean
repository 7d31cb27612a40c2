/- Contracts: what a text is divided into (the program's reading). -/
import Derived.Test.YtnbjogilidfkdaaGreatQX53A
import Derived.Test.YtnbjogilidfkdaaGreatQX53D
import Derived.Test.YtnbjogilidfkdaaGreatQK27
import Derived.Test.YtnbjogilidfkdaaGreatQX1
import Derived.Test.YtnbjogilidfkdaaGreatQK3

namespace Go.Proofs.YtnbjogilidfkdaaGreat
attribute [local irreducible] awp arun acalm FinP Fin AX.then AX.inBlock Again aG gsel amix amixN amixC aop aopc aopd cutK
attribute [local go_sem] aBSliceD aSlice aSliceC boundOf aMk aCall aCallC aLenL aLen aPick_t aPick_f aNil aAlloc aBox aBuild bldPV aBSlice bsPV aApp newsOf destOf drp aConvX aConv aConvInt aLoad cellsAt aStore cellsPV setAt aFld aField aIdx aIndex aUn aBin' aBin aMax aExtract pvOf PV.isCell nmbL PV.nmb List.map_cons List.map_nil List.all_cons List.all_nil Bool.and_true Bool.true_and if_true if_false List.getD_cons_zero List.getD_cons_succ List.getD_nil Option.isSome_some true_and and_true and_self eq_self true_or or_true List.drop_zero List.drop_succ_cons List.drop_nil List.take_zero List.take_succ_cons List.take_nil List.length_cons List.length_nil List.length_map Option.getD_some Option.getD_none List.nil_append List.cons_append List.append_nil Option.some.injEq exists_eq_left' List.getElem?_cons_zero List.getElem?_cons_succ Int.toNat_natCast Int.natCast_inj toNat_succ Nat.zero_add res res1 resC owns owns1 ownsC List.flatMap_cons List.flatMap_nil List.flatten_cons List.flatten_nil List.mem_cons List.not_mem_nil or_false false_or forall_eq forall_eq_or_imp isFro frz frz1 pureC tabA isBld List.cons.injEq PV.seq.injEq PV.int.injEq PV.str.injEq PV.bool.injEq PV.agg.injEq inR tab Γof aRes packR Option.map_some Option.map_none rel Prod.exists exists_and_left exists_eq_left and_assoc beq_self_eq_true Bool.not_true Bool.not_false decide_true decide_false List.set_cons_zero List.set_cons_succ rst_nil rst_cons
attribute [local go_sem ↓] evT upd_def aop aopc aopd
set_option maxRecDepth 100000
set_option linter.unusedVariables false
set_option linter.unusedSimpArgs false
open Go.RowKit
def lvX53_9:Nat→List Nat
 | 0=>[0]
 | 1=>[0,15]
 | 2=>[2,3]
 | 3=>[0,4]
 | 4=>[0,4,5]
 | 5=>[0,4,5,6]
 | 6=>[0,4,5,6,7]
 | 7=>[0,4,5,6,7,8]
 | 8=>[0,4,5,6,7,8,23]
 | 9=>[0,4,5,6,7,8]
 | 10=>[0,4,5,6,7,8,9]
 | 11=>[0,4,5,6,7,8,9,10]
 | 12=>[0,4,5,6,7,8,9,10,32]
 | 13=>[2,3]
 | 14=>[0,4,5,6,7,8,9,10,36]
 | 15=>[0,4,5,6,7,8,9,10]
 | 16=>[0,4,5,6,7,8,9,10,49]
 | 17=>[0,4,5,6,7,8,9,10,55]
 | 18=>[0,4,5,7,8,9,10]
 | 19=>[0,4,5,6,7,8,9,10]
 | 20=>[0,4,5,6,7,8,9,10,63]
 | 21=>[0,4,5,6,7,8,9,10]
 | 22=>[0,4,5,6,7,8,9,10,73]
 | 23=>[0,4,5,6,7,8,9,10]
 | 24=>[0,4,5,6,7,8,9,10,88]
 | 25=>[0,4,5,7,8,9,10]
 | 26=>[0,4,5,6,7,8,9,10]
 | 27=>[0,4,5,6,7,8,9,10,103]
 | 28=>[0,4,5,6,7,8,9,10]
 | 29=>[0,4,5,6,7,8,9,10,111]
 | 30=>[0,4,5,6,7,8,9,10,122]
 | 31=>[0,4,5,7,8,9,10]
 | 32=>[0,4,5,6,7,8,9,10]
 | 33=>[0,4,5,6,7,8,9,10,133]
 | 34=>[0,4,5,6,7,8,9,10]
 | 35=>[0,4,5,6,7,8,9,10,148]
 | 36=>[0,4,5,6,7,8,9,10,11]
 | 37=>[0,4,5,6,7,8,9,10,11,153]
 | 38=>[0,4,5,6,7,8,10]
 | 39=>[0,4,5,6,7,8,9,10,11,170]
 | 40=>[0,4,5,6,7,8,10]
 | 41=>[0,4,5,6,7,8,9,10,11,181]
 | 42=>[0,4,5,6,7,8,10]
 | 43=>[0,4,5,6,7,8,10,214]
 | 44=>[0,4,5,6,7,8,10]
 | 45=>[0,4,5,6,7,8,10,228,229]
 | 46=>[0,4,5,6,7,8,10,228,229,230]
 | 47=>[0,4,5,6,7,8,10,12,228,229]
 | 48=>[0,4,5,6,7,8,10,228,229]
 | 49=>[0,4,5,6,7,8,10,228,229]
 | 50=>[0,4,5,6,7,8,10,248]
 | 51=>[2,3]
 | 52=>[0,4,5,6,7,8,10]
 | 53=>[0,4,5,6,7,8,10]
 | 54=>[0,4,5,6,7,8]
 | 55=>[4,6,257]
 | 56=>[2,3]
 | 57=>[4,6,260]
 | 58=>[4]
 | 59=>[4,270]
 | 60=>[2,3]
 | 61=>[2,3]
 | _=>[]
--LV=X53
set_option maxHeartbeats 40000000 in
theorem tok_i:PureOk Tryz.prog 9 tkC:=by
 refine pure_rel 1 (tab_cons text_i (tab_cons step_i (tab_cons un_i tab_nil))) mixed [.tmp 2,.tmp 3] Tryz.func9 rfl rfl (by kernel_rfl) (by kernel_rfl) (fun _=>rfl) (by kernel_rfl) ?_
 rintro s K hl hK
 unfold entry
 cases ht:textB s with
 | false =>
   rw [tokM_bad ht] at hK
   repeat' (first|((first|apply qwd|apply qa1|apply qa2|apply qa3|apply qh1|apply qh2|apply qg1 rfl|apply qcd);(try intro K hk);focus (simp only [lvX53_9,mkT,go_sem,Nat.reduceEqDiff,Nat.reduceAdd,Nat.reduceLeDiff,Nat.reduceLT,Nat.reduceSub,Int.reduceToNat,↓reduceIte,reduceCtorEq,ht,Bool.not_false];first|exact rfl|((repeat refine ai ?_);intros;apply hk;clear hk K)))|apply qw8|apply qw1|refine qwc lvX53_9 ?_|apply qt1|apply qw5|apply qw2|apply qw9|apply qt2|apply qt3|apply qt4|apply qt5|apply qt6|apply qw3|apply qw4|apply qj1|apply qj2|apply qj3|apply qj4|apply qj5|apply qu1|apply qu2|(refine qj6 ?_ ?_<;>intro hc<;>(try simp only [hc])<;>(try simp only [decide_eq_true_eq,decide_eq_false_iff_not,Bool.not_eq_true',Bool.not_eq_false',Bool.not_eq_true,reduceCtorEq] at hc)<;>(try (exfalso;omega)))|(refine qt7 ?_ ?_;focus decide)|(refine qw7 ?_ ?_ ?_;(focus (decide +kernel));(focus (decide +kernel))))
   ((first|refine fin_ret ?_|refine fin_end ?_);simp only [go_sem,↓upd_def,Nat.reduceEqDiff,Nat.reduceAdd,↓reduceIte,reduceCtorEq])
   exact hK
 | true =>
 have hsl:s.length≤600:=(textB_iff.1 ht).1
 repeat' (first|((first|apply qwd|apply qa1|apply qa2|apply qa3|apply qh1|apply qh2|apply qg1 rfl|apply qcd);(try intro K hk);focus (simp only [lvX53_9,mkT,go_sem,Nat.reduceEqDiff,Nat.reduceAdd,Nat.reduceLeDiff,Nat.reduceLT,Nat.reduceSub,Int.reduceToNat,↓reduceIte,reduceCtorEq,ht,Bool.not_true];first|exact rfl|((repeat refine ai ?_);intros;apply hk;clear hk K)))|apply qw8|apply qw1|refine qwc lvX53_9 ?_|apply qt1|apply qw5|apply qw2|apply qw9|apply qt2|apply qt3|apply qt4|apply qt5|apply qt6|apply qw3|apply qw4|apply qj1|apply qj2|apply qj3|apply qj4|apply qj5|apply qu1|apply qu2|(refine qj6 ?_ ?_<;>intro hc<;>(try simp only [hc])<;>(try simp only [decide_eq_true_eq,decide_eq_false_iff_not,Bool.not_eq_true',Bool.not_eq_false',Bool.not_eq_true,reduceCtorEq] at hc)<;>(try (exfalso;omega)))|(refine qt7 ?_ ?_;focus decide)|(refine qw7 ?_ ?_ ?_;(focus (decide +kernel));(focus (decide +kernel))))
 refine s_loop (T53 s) M53 5 (good53 s) (mu53 s) (0,tkI0,true,false) (by omega) (by unfold good53;dsimp only [cond];exact ⟨Nat.zero_le _,TkAt.zero s,.inl rfl,rfl⟩) ?_ ?_
 · simp [T53,M53,fits,fitsT,fitsM,upd_def,PV.nmb,nmbL,MB.nmb,List.getD_cons_zero,List.getD_cons_succ,tkI0,st0,encS_mk,encTks_nil,kd53]
 rintro ⟨k,x,rb,pb⟩ ⟨hk,hx,hrb,hpb⟩
 dsimp only at hk hx hrb hpb
 by_cases hkl:k<s.length
 · have hm0:=step_modes hx.ok.v (s.getD k 0)
   have hsp:=hx.stop hkl ht
   obtain ⟨⟨m,tg,ta,ts⟩,raw,ps,out⟩:=x
   dsimp only at *
   generalize hb:s.getD k 0=b at *
   generalize hn:step ⟨m,tg,ta,ts⟩ b=nn at *
   obtain ⟨n,ng,na,ns⟩:=nn
   dsimp only at *
   rcases hm0 with h15|hm0
   · subst h15
     rw [hsp (by unfold tkStep;rw [hn];rfl)] at hK
     have hoS:=okS_of hx.ok.v
     have hoN:=okS_of (stV_step ⟨m,tg,ta,ts⟩ b)
     rw [hn] at hoN
     have hbl:=byte_lt s k
     rw [hb] at hbl
     cases rb<;>cases pb<;>simp only [T53,M53,mkS,mkT,mkM,cond_true,cond_false,List.append_nil,List.cons_append,List.nil_append]
     all_goals
      repeat' (first|((first|apply qwd|apply qa1|apply qa2|apply qa3|apply qh1|apply qh2|apply qg1 rfl|apply qcd);(try intro K hk);focus (simp only [lvX53_9,mkT,go_sem,Nat.reduceEqDiff,Nat.reduceAdd,Nat.reduceLeDiff,Nat.reduceLT,Nat.reduceSub,Int.reduceToNat,↓reduceIte,reduceCtorEq,hb,hn,encS_eq,ex_St,encS_mk,encTks_len,Int.reduceEq,decide_true,decide_false];first|exact rfl|((repeat refine ai ?_);intros;apply hk;clear hk K)))|apply qw8|apply qw1|refine qwc lvX53_9 ?_|apply qt1|apply qw5|apply qw2|apply qw9|apply qt2|apply qt3|apply qt4|apply qt5|apply qt6|apply qw3|apply qw4|apply qj1|apply qj2|apply qj3|apply qj4|apply qj5|apply qu1|apply qu2|(refine qj6 ?_ ?_<;>intro hc<;>(try simp only [hc])<;>(try simp only [decide_eq_true_eq,decide_eq_false_iff_not,Bool.not_eq_true',Bool.not_eq_false',Bool.not_eq_true,reduceCtorEq] at hc)<;>(try (exfalso;omega)))|(refine qt7 ?_ ?_;focus decide)|(refine qw7 ?_ ?_ ?_;(focus (decide +kernel));(focus (decide +kernel))))
      ((first|refine fin_ret ?_|refine fin_end ?_);simp only [go_sem,↓upd_def,Nat.reduceEqDiff,Nat.reduceAdd,↓reduceIte,reduceCtorEq])
      exact hK
   have hQ:tkStep ⟨⟨m,tg,ta,ts⟩,raw,ps,out⟩ b=none→K (.tup [.seq [],.bool false]):=fun e=>by rw [hsp e] at hK;exact hK
   rcases hm0 with ⟨hm,h|h⟩|⟨hm,h|h⟩|⟨hm,h|h|h|h⟩|⟨hm,h|h|h|h⟩|⟨hm,h|h|⟨h,_⟩|h|h⟩|⟨hm,h|h|h,_⟩|⟨hm,h|⟨h,_⟩⟩|⟨hm,h|⟨h,_⟩⟩|⟨hm,h|⟨h,_⟩|h|h⟩|⟨hm,h|h⟩|⟨hm,h|h⟩|⟨hm,h⟩|⟨hm,h⟩|⟨hm,h⟩|⟨hm,h|h⟩
   all_goals first
    | exact w53_00 hsl hkl hb hn hx hrb hpb (by omega) (by omega)
    | exact w53_01 hsl hkl hb hn hx hrb hpb (by omega) (by omega)
    | exact w53_12 hsl hkl hb hn hx hrb hpb (by omega) (by omega)
    | exact w53_1n hsl hkl hb hn hx hrb hpb (by omega) (by omega)
    | exact w53_90 hsl hkl hb hn hx hrb hpb (by omega) (by omega)
    | exact w53_99 hsl hkl hb hn hx hrb hpb (by omega) (by omega)
    | exact w53_100 hsl hkl hb hn hx hrb hpb (by omega) (by omega)
    | exact w53_1010 hsl hkl hb hn hx hrb hpb (by omega) (by omega)
    | exact w53_11n hsl hkl hb hn hx hrb hpb (by omega) (by omega)
    | exact w53_149 hsl hkl hb hn hx hrb hpb (by omega) (by omega)
    | exact w53_14n hsl hkl hb hn hx hrb hpb (by omega) (by omega)
    | exact w53_2n hsl hkl hb hn hx hrb hpb (by omega) (by omega)
    | exact w53_33 hsl hkl hb hn hx hrb hpb (by omega) (by omega)
    | exact w53_34 hsl hkl hb hn hx hrb hpb (by omega) (by omega)
    | exact w53_k hsl hkl hb hn hx hrb hpb (by omega) (by omega) (by omega)
    | exact w53_44 hsl hkl hb hn hx hrb hpb (by omega) (by omega)
    | exact w53_n8 hsl hkl hb hn hx hrb hpb (by omega) (by omega)
    | exact w53_66 hsl hkl hb hn hx hrb hpb (by omega) (by omega)
    | exact w53_77 hsl hkl hb hn hx hrb hpb (by omega) (by omega)
    | (refine w53_e0 hsl hkl hb hn hx hrb hpb (by omega) (by omega) ?_;intro e σ h2 h3;obtain ⟨τ,mm,nx⟩:=σ;dsimp only at h2 h3;(repeat' (first|((first|apply qwd|apply qa1|apply qa2|apply qa3|apply qh1|apply qh2|apply qg1 rfl|apply qcd);(try intro K hk);focus (simp only [lvX53_9,mkT,go_sem,Nat.reduceEqDiff,Nat.reduceAdd,Nat.reduceLeDiff,Nat.reduceLT,Nat.reduceSub,Int.reduceToNat,↓reduceIte,reduceCtorEq];first|exact rfl|((repeat refine ai ?_);intros;apply hk;clear hk K)))|apply qw8|apply qw1|refine qwc lvX53_9 ?_|apply qt1|apply qw5|apply qw2|apply qw9|apply qt2|apply qt3|apply qt4|apply qt5|apply qt6|apply qw3|apply qw4|apply qj1|apply qj2|apply qj3|apply qj4|apply qj5|apply qu1|apply qu2|(refine qj6 ?_ ?_<;>intro hc<;>(try simp only [hc])<;>(try simp only [decide_eq_true_eq,decide_eq_false_iff_not,Bool.not_eq_true',Bool.not_eq_false',Bool.not_eq_true,reduceCtorEq] at hc)<;>(try (exfalso;omega)))|(refine qt7 ?_ ?_;focus decide)|(refine qw7 ?_ ?_ ?_;(focus (decide +kernel));(focus (decide +kernel)))));refine fin_ret ?_;simp only [go_sem,h2,h3,not_false_eq_true,ne_eq,↓upd_def,Nat.reduceEqDiff,Nat.reduceAdd,↓reduceIte,reduceCtorEq];exact hQ e)
    | (refine w53_e11 hsl hkl hb hn hx hrb hpb (by omega) (by omega) ?_;intro e σ h2 h3;obtain ⟨τ,mm,nx⟩:=σ;dsimp only at h2 h3;(repeat' (first|((first|apply qwd|apply qa1|apply qa2|apply qa3|apply qh1|apply qh2|apply qg1 rfl|apply qcd);(try intro K hk);focus (simp only [lvX53_9,mkT,go_sem,Nat.reduceEqDiff,Nat.reduceAdd,Nat.reduceLeDiff,Nat.reduceLT,Nat.reduceSub,Int.reduceToNat,↓reduceIte,reduceCtorEq];first|exact rfl|((repeat refine ai ?_);intros;apply hk;clear hk K)))|apply qw8|apply qw1|refine qwc lvX53_9 ?_|apply qt1|apply qw5|apply qw2|apply qw9|apply qt2|apply qt3|apply qt4|apply qt5|apply qt6|apply qw3|apply qw4|apply qj1|apply qj2|apply qj3|apply qj4|apply qj5|apply qu1|apply qu2|(refine qj6 ?_ ?_<;>intro hc<;>(try simp only [hc])<;>(try simp only [decide_eq_true_eq,decide_eq_false_iff_not,Bool.not_eq_true',Bool.not_eq_false',Bool.not_eq_true,reduceCtorEq] at hc)<;>(try (exfalso;omega)))|(refine qt7 ?_ ?_;focus decide)|(refine qw7 ?_ ?_ ?_;(focus (decide +kernel));(focus (decide +kernel)))));refine fin_ret ?_;simp only [go_sem,h2,h3,not_false_eq_true,ne_eq,↓upd_def,Nat.reduceEqDiff,Nat.reduceAdd,↓reduceIte,reduceCtorEq];exact hQ e)
 · obtain rfl:k=s.length:=by omega
   rw [hx.fin (Nat.le_refl _) ht] at hK
   have hlo:=hx.lo
   have hbr:=hx.bd.raw
   have hz:=hx.ok.z
   clear hx
   obtain ⟨⟨m,tg,ta,ts⟩,raw,ps,out⟩:=x
   dsimp only at *
   by_cases hm:m=0
   · subst hm
     have hp0:ps=[]:=hz (by omega)
     subst hp0
     have hpb0:pb=false:=by
      cases pb
      · rfl
      · simp only [cond_true] at hpb;omega
     subst hpb0
     have nil_case:raw=[]→K (.tup [.seq (encTks (if 60<out.length then [] else out)),.bool (!decide (60<out.length))]):=by
      intro hr
      unfold tkFin at hK
      simp only [hr,ne_eq,not_true_eq_false,if_false,if_true,gt_iff_lt] at hK
      by_cases h6:60<out.length
      · rw [if_pos h6] at hK ⊢;rw [decide_eq_true h6];exact hK
      · rw [if_neg h6] at hK ⊢;rw [decide_eq_false h6];exact hK
     have cons_case:raw≠[]→K (.tup [.seq (encTks (if 60<out.length+1 then [] else out++[tkText (unT raw)])),.bool (!decide (60<out.length+1))]):=by
      intro hr
      unfold tkFin at hK
      simp only [hr,ne_eq,not_true_eq_false,if_false,gt_iff_lt,List.length_append,List.length_singleton] at hK
      by_cases h6:60<out.length+1
      · rw [if_pos h6] at hK ⊢;rw [decide_eq_true h6];exact hK
      · rw [if_neg h6] at hK ⊢;rw [decide_eq_false h6];exact hK
     clear hK
     cases rb
     · have hr0:raw=[]:=hrb
       have hK:=nil_case hr0
       subst hr0
       simp only [T53,M53,mkS,mkT,mkM,cond_true,cond_false,List.append_nil,List.cons_append,List.nil_append]
       repeat' (first|((first|apply qwd|apply qa1|apply qa2|apply qa3|apply qh1|apply qh2|apply qg1 rfl|apply qcd);(try intro K hk);focus (simp only [lvX53_9,mkT,go_sem,Nat.reduceEqDiff,Nat.reduceAdd,Nat.reduceLeDiff,Nat.reduceLT,Nat.reduceSub,Int.reduceToNat,↓reduceIte,reduceCtorEq,encS_eq,ex_St,encS_mk,encTks_len,encPrs_len,encTks_all,encPrs_all,bytes_all53,bytes_app53,tok_app53n,List.length_map,List.length_nil,List.length_cons,Int.reduceEq,Int.reduceLE,Int.reduceLT,decide_true,decide_false,Bool.not_true,Bool.not_false];first|exact rfl|((repeat refine ai ?_);intros;apply hk;clear hk K)))|apply qw8|apply qw1|refine qwc lvX53_9 ?_|apply qt1|apply qw5|apply qw2|apply qw9|apply qt2|apply qt3|apply qt4|apply qt5|apply qt6|apply qw3|apply qw4|apply qj1|apply qj2|apply qj3|apply qj4|apply qj5|apply qu1|apply qu2|(refine qj6 ?_ ?_<;>intro hc<;>(try simp only [hc])<;>(try simp only [decide_eq_true_eq,decide_eq_false_iff_not,Bool.not_eq_true',Bool.not_eq_false',Bool.not_eq_true,reduceCtorEq] at hc)<;>(try (exfalso;omega)))|(refine qt7 ?_ ?_;focus decide)|(refine qw7 ?_ ?_ ?_;(focus (decide +kernel));(focus (decide +kernel))))
       all_goals
        ((first|refine fin_ret ?_|refine fin_end ?_);simp only [go_sem,↓upd_def,Nat.reduceEqDiff,Nat.reduceAdd,↓reduceIte,reduceCtorEq])
        refine K_eq hK ?_
        (try split)<;>first|omega|(simp [encTks_nil, *];done)|(simp [encTks_nil, *];omega)
     · simp only [T53,M53,mkS,mkT,mkM,cond_true,cond_false,List.append_nil,List.cons_append,List.nil_append]
       by_cases hr0:raw=[]
       · have hK:=nil_case hr0
         subst hr0
         repeat' (first|((first|apply qwd|apply qa1|apply qa2|apply qa3|apply qh1|apply qh2|apply qg1 rfl|apply qcd);(try intro K hk);focus (simp only [lvX53_9,mkT,go_sem,Nat.reduceEqDiff,Nat.reduceAdd,Nat.reduceLeDiff,Nat.reduceLT,Nat.reduceSub,Int.reduceToNat,↓reduceIte,reduceCtorEq,encS_eq,ex_St,encS_mk,encTks_len,encPrs_len,encTks_all,encPrs_all,bytes_all53,bytes_app53,tok_app53n,List.length_map,List.length_nil,List.length_cons,Int.reduceEq,Int.reduceLE,Int.reduceLT,decide_true,decide_false,Bool.not_true,Bool.not_false];first|exact rfl|((repeat refine ai ?_);intros;apply hk;clear hk K)))|apply qw8|apply qw1|refine qwc lvX53_9 ?_|apply qt1|apply qw5|apply qw2|apply qw9|apply qt2|apply qt3|apply qt4|apply qt5|apply qt6|apply qw3|apply qw4|apply qj1|apply qj2|apply qj3|apply qj4|apply qj5|apply qu1|apply qu2|(refine qj6 ?_ ?_<;>intro hc<;>(try simp only [hc])<;>(try simp only [decide_eq_true_eq,decide_eq_false_iff_not,Bool.not_eq_true',Bool.not_eq_false',Bool.not_eq_true,reduceCtorEq] at hc)<;>(try (exfalso;omega)))|(refine qt7 ?_ ?_;focus decide)|(refine qw7 ?_ ?_ ?_;(focus (decide +kernel));(focus (decide +kernel))))
         all_goals
          ((first|refine fin_ret ?_|refine fin_end ?_);simp only [go_sem,↓upd_def,Nat.reduceEqDiff,Nat.reduceAdd,↓reduceIte,reduceCtorEq])
          refine K_eq hK ?_
          (try split)<;>first|omega|(simp [encTks_nil, *];done)|(simp [encTks_nil, *];omega)
       · have hK:=cons_case hr0
         have hrl:0<raw.length:=List.length_pos_iff.2 hr0
         repeat' (first|((first|apply qwd|apply qa1|apply qa2|apply qa3|apply qh1|apply qh2|apply qg1 rfl|apply qcd);(try intro K hk);focus (simp only [lvX53_9,mkT,go_sem,Nat.reduceEqDiff,Nat.reduceAdd,Nat.reduceLeDiff,Nat.reduceLT,Nat.reduceSub,Int.reduceToNat,↓reduceIte,reduceCtorEq,encS_eq,ex_St,encS_mk,encTks_len,encPrs_len,encTks_all,encPrs_all,bytes_all53,bytes_app53,tok_app53n,List.length_map,List.length_nil,List.length_cons,Int.reduceEq,Int.reduceLE,Int.reduceLT,decide_true,decide_false,Bool.not_true,Bool.not_false,List.length_append];first|exact rfl|((repeat refine ai ?_);intros;apply hk;clear hk K)))|apply qw8|apply qw1|refine qwc lvX53_9 ?_|apply qt1|apply qw5|apply qw2|apply qw9|apply qt2|apply qt3|apply qt4|apply qt5|apply qt6|apply qw3|apply qw4|apply qj1|apply qj2|apply qj3|apply qj4|apply qj5|apply qu1|apply qu2|(refine qj6 ?_ ?_<;>intro hc<;>(try simp only [hc])<;>(try simp only [decide_eq_true_eq,decide_eq_false_iff_not,Bool.not_eq_true',Bool.not_eq_false',Bool.not_eq_true,reduceCtorEq] at hc)<;>(try (exfalso;omega)))|(refine qt7 ?_ ?_;focus decide)|(refine qw7 ?_ ?_ ?_;(focus (decide +kernel));(focus (decide +kernel))))
         all_goals
          ((first|refine fin_ret ?_|refine fin_end ?_);simp only [go_sem,↓upd_def,Nat.reduceEqDiff,Nat.reduceAdd,↓reduceIte,reduceCtorEq])
          refine K_eq hK ?_
          (try split)<;>first|omega|(simp [encTks_nil,tkText, *];done)|(simp [encTks_nil,tkText, *];omega)
   · have e:tkFin ⟨⟨m,tg,ta,ts⟩,raw,ps,out⟩=none:=by unfold tkFin;rw [if_pos hm]
     rw [e] at hK
     cases rb<;>cases pb<;>simp only [T53,M53,mkS,mkT,mkM,cond_true,cond_false,List.append_nil,List.cons_append,List.nil_append]
     all_goals
      repeat' (first|((first|apply qwd|apply qa1|apply qa2|apply qa3|apply qh1|apply qh2|apply qg1 rfl|apply qcd);(try intro K hk);focus (simp only [lvX53_9,mkT,go_sem,Nat.reduceEqDiff,Nat.reduceAdd,Nat.reduceLeDiff,Nat.reduceLT,Nat.reduceSub,Int.reduceToNat,↓reduceIte,reduceCtorEq,hm,encS_mk,decide_true,decide_false,Bool.not_true,Bool.not_false];first|exact rfl|((repeat refine ai ?_);intros;apply hk;clear hk K)))|apply qw8|apply qw1|refine qwc lvX53_9 ?_|apply qt1|apply qw5|apply qw2|apply qw9|apply qt2|apply qt3|apply qt4|apply qt5|apply qt6|apply qw3|apply qw4|apply qj1|apply qj2|apply qj3|apply qj4|apply qj5|apply qu1|apply qu2|(refine qj6 ?_ ?_<;>intro hc<;>(try simp only [hc])<;>(try simp only [decide_eq_true_eq,decide_eq_false_iff_not,Bool.not_eq_true',Bool.not_eq_false',Bool.not_eq_true,reduceCtorEq] at hc)<;>(try (exfalso;omega)))|(refine qt7 ?_ ?_;focus decide)|(refine qw7 ?_ ?_ ?_;(focus (decide +kernel));(focus (decide +kernel))))
      ((first|refine fin_ret ?_|refine fin_end ?_);simp only [go_sem,↓upd_def,Nat.reduceEqDiff,Nat.reduceAdd,↓reduceIte,reduceCtorEq])
      exact hK
end Go.Proofs.YtnbjogilidfkdaaGreat

/- Contracts: tags that may stand, tags without an end, balanced tokens. -/
namespace Go.Proofs.YtnbjogilidfkdaaGreat
attribute [local irreducible] awp arun acalm FinP Fin AX.then AX.inBlock Again aG gsel amix amixN amixC aop aopc aopd cutK
attribute [local go_sem] aBSliceD aSlice aSliceC boundOf aMk aCall aCallC aLenL aLen aPick_t aPick_f aNil aAlloc aBox aBuild bldPV aBSlice bsPV aApp newsOf destOf drp aConvX aConv aConvInt aLoad cellsAt aStore cellsPV setAt aFld aField aIdx aIndex aUn aBin' aBin aMax aExtract pvOf PV.isCell nmbL PV.nmb List.map_cons List.map_nil List.all_cons List.all_nil Bool.and_true Bool.true_and if_true if_false List.getD_cons_zero List.getD_cons_succ List.getD_nil Option.isSome_some true_and and_true and_self eq_self true_or or_true List.drop_zero List.drop_succ_cons List.drop_nil List.take_zero List.take_succ_cons List.take_nil List.length_cons List.length_nil List.length_map Option.getD_some Option.getD_none List.nil_append List.cons_append List.append_nil Option.some.injEq exists_eq_left' List.getElem?_cons_zero List.getElem?_cons_succ Int.toNat_natCast Int.natCast_inj toNat_succ Nat.zero_add res res1 resC owns owns1 ownsC List.flatMap_cons List.flatMap_nil List.flatten_cons List.flatten_nil List.mem_cons List.not_mem_nil or_false false_or forall_eq forall_eq_or_imp isFro frz frz1 pureC tabA isBld List.cons.injEq PV.seq.injEq PV.int.injEq PV.str.injEq PV.bool.injEq PV.agg.injEq inR tab Γof aRes packR Option.map_some Option.map_none rel Prod.exists exists_and_left exists_eq_left and_assoc beq_self_eq_true Bool.not_true Bool.not_false decide_true decide_false List.set_cons_zero List.set_cons_succ rst_nil rst_cons
attribute [local go_sem ↓] evT upd_def aop aopc aopd
set_option maxRecDepth 100000
set_option linter.unusedVariables false
set_option linter.unusedSimpArgs false
open Go.RowKit
def lvX50_86:Nat→List Nat
 | 0=>[0]
 | 1=>[3]
 | 2=>[3,4]
 | 3=>[3,4]
 | 4=>[3,4]
 | 5=>[3,4]
 | 6=>[3,4]
 | 7=>[3,4]
 | 8=>[3,4]
 | 9=>[4]
 | 10=>[2]
 | 11=>[2]
 | _=>[]
def lvX50_117:Nat→List Nat
 | 0=>[0]
 | 1=>[2]
 | _=>[]
def lvX50_120:Nat→List Nat
 | 0=>[0]
 | 1=>[0,4]
 | 2=>[0,4,5]
 | 3=>[4,5,9,10,11]
 | 4=>[4,5,9,10,11,12]
 | 5=>[4,5,7,9,10,11]
 | 6=>[4,5,7,9,10,11,23]
 | 7=>[4,5,7,9,10,11]
 | 8=>[4,5,7,9,10,11]
 | 9=>[4,5,7,9,10,11,35]
 | 10=>[4,5,9,10,11,49]
 | 11=>[2,3]
 | 12=>[4,5,9,10,11]
 | 13=>[4,5,9,10,11]
 | 14=>[2,3]
 | _=>[]
def lvX50_140:Nat→List Nat
 | 0=>[0]
 | 1=>[2]
 | _=>[]
def lvX50_141:Nat→List Nat
 | 0=>[0]
 | 1=>[2]
 | _=>[]
--LV=X50
@[go_sem] def tgC (f:Bs→Bool):PC:=rel (α:=Bs) (fun x=>[.str x]) (fun x=>x.length≤1048576) (fun x=> .bool (f x))
theorem strs_all50 (l:List Bs):(∀ e ∈ strs l,e.length=1)=True:=strs_all l
theorem tgA_i:PureOk Tryz.prog 86 (tgC tagN):=by
 refine pure_rel 1 tab_nil mixed [.tmp 2] Tryz.func86 rfl rfl (by kernel_rfl) (by kernel_rfl) (fun _=>rfl) (by kernel_rfl) ?_
 rintro n K hn hK
 unfold tagN at hK
 unfold entry
 repeat' (first|((first|apply qwd|apply qa1|apply qcd);(try intro K hk);focus (simp only [lvX50_86,mkT,go_sem,Nat.reduceEqDiff,↓reduceIte,reduceCtorEq];first|exact rfl|((repeat refine ai ?_);intros;apply hk;clear hk K)))|apply qw1|refine qwc lvX50_86 ?_|apply qt1|apply qw5|apply qw2|apply qt3|apply qt4|apply qt6|apply qw4|apply qj1|apply qj4|(refine qj6 ?_ ?_<;>intro hc<;>(try simp only [hc])<;>(try simp only [decide_eq_true_eq,decide_eq_false_iff_not] at hc)<;>(try (exfalso;omega))))
 all_goals
  ((first|refine fin_ret ?_|refine fin_end ?_);simp only [go_sem,↓upd_def,↓reduceIte])
  refine K_bool hK ?_
  simp [*]
theorem tgA_s:PureOk Tryz.prog 117 (tgC tagN):=by
 refine pure_rel 1 tab_nil mixed [.tmp 2] Tryz.func117 rfl rfl (by kernel_rfl) (by kernel_rfl) (fun _=>rfl) (by kernel_rfl) ?_
 rintro n K hn hK
 unfold tagN at hK
 unfold entry
 repeat' (first|((first|apply qwd|apply qa1|apply qh1|apply qg1 rfl);(try intro K hk);focus (simp only [lvX50_117,mkT,go_sem,Nat.reduceEqDiff,↓reduceIte,reduceCtorEq];first|exact rfl|((repeat refine ai ?_);intros;apply hk;clear hk K)))|apply qw1|refine qwc lvX50_117 ?_|apply qt1|apply qw4|apply qj2|apply qj3|apply qu1|(refine qj6 ?_ ?_<;>intro hc<;>(try simp only [hc])<;>(try simp only [decide_eq_true_eq,decide_eq_false_iff_not] at hc)<;>(try (exfalso;omega))))
 all_goals
  ((first|refine fin_ret ?_|refine fin_end ?_);simp only [go_sem,↓upd_def,↓reduceIte])
  refine K_bool hK ?_
  simp [*]
theorem vo_i:PureOk Tryz.prog 141 (tgC voidN):=by
 refine pure_rel 1 tab_nil mixed [.tmp 2] Tryz.func141 rfl rfl (by kernel_rfl) (by kernel_rfl) (fun _=>rfl) (by kernel_rfl) ?_
 rintro n K hn hK
 unfold voidN at hK
 unfold entry
 repeat' (first|((first|apply qwd|apply qa1|apply qh1|apply qg1 rfl);(try intro K hk);focus (simp only [lvX50_141,mkT,go_sem,Nat.reduceEqDiff,↓reduceIte,reduceCtorEq];first|exact rfl|((repeat refine ai ?_);intros;apply hk;clear hk K)))|apply qw1|refine qwc lvX50_141 ?_|apply qt1|apply qw4|apply qj2|apply qj3|apply qu1|(refine qj6 ?_ ?_<;>intro hc<;>(try simp only [hc])<;>(try simp only [decide_eq_true_eq,decide_eq_false_iff_not] at hc)<;>(try (exfalso;omega))))
 all_goals
  ((first|refine fin_ret ?_|refine fin_end ?_);simp only [go_sem,↓upd_def,↓reduceIte])
  refine K_bool hK ?_
  simp [*]
theorem vo_s:PureOk Tryz.prog 140 (tgC voidN):=by
 refine pure_rel 1 tab_nil mixed [.tmp 2] Tryz.func140 rfl rfl (by kernel_rfl) (by kernel_rfl) (fun _=>rfl) (by kernel_rfl) ?_
 rintro n K hn hK
 unfold voidN at hK
 unfold entry
 repeat' (first|((first|apply qwd|apply qa1|apply qh1|apply qg1 rfl);(try intro K hk);focus (simp only [lvX50_140,mkT,go_sem,Nat.reduceEqDiff,↓reduceIte,reduceCtorEq];first|exact rfl|((repeat refine ai ?_);intros;apply hk;clear hk K)))|apply qw1|refine qwc lvX50_140 ?_|apply qt1|apply qw4|apply qj2|apply qj3|apply qu1|(refine qj6 ?_ ?_<;>intro hc<;>(try simp only [hc])<;>(try simp only [decide_eq_true_eq,decide_eq_false_iff_not] at hc)<;>(try (exfalso;omega))))
 all_goals
  ((first|refine fin_ret ?_|refine fin_end ?_);simp only [go_sem,↓upd_def,↓reduceIte])
  refine K_bool hK ?_
  simp [*]
@[go_sem] def balC:PC:=rel (α:=List TokD) (fun x=>[.seq (encTks x)]) smTks (fun x=> .bool (balF [] x))
@[go_sem] def depC:PC:=rel (α:=List TokD) (fun x=>[.seq (encTks x)]) smTks (fun x=> .tup [.int .i64 (depF [] 0 x).1,.bool (depF [] 0 x).2])
set_option maxHeartbeats 8000000 in
theorem dep_i:PureOk Tryz.prog 120 depC:=by
 refine pure_rel 1 (tab_cons vo_i tab_nil) mixed [.tmp 2,.tmp 3] Tryz.func120 rfl rfl (by kernel_rfl) (by kernel_rfl) (fun _=>rfl) (by kernel_rfl) ?_
 rintro l K hsm hK
 obtain ⟨hl,hall⟩:=id hsm
 have hst:=strs_all50
 have hsl:=strs_length
 have hz0:decide (((0:Nat):Int)=0)=true:=by simp
 unfold entry
 repeat' (first|((first|apply qwd|apply qa1);(try intro K hk);focus (simp only [lvX50_120,mkT,go_sem,Nat.reduceEqDiff,↓reduceIte,reduceCtorEq,encTks_len];first|exact rfl|((repeat refine ai ?_);intros;apply hk;clear hk K)))|apply qw1|refine qwc lvX50_120 ?_|apply qt1|apply qw5)
 refine s_loop (ι:=Nat×List Bs×Nat) (fun i=>[(4,.own 0),(5,.int .i64 i.2.2),(9,.seq (encTks l)),(10,.int .i64 l.length),(11,.int .i64 i.1)]) (fun i=>[(0,.row 9 1 (strs i.2.1.reverse))]) 1 (fun i=>i.1≤l.length∧i.2.1.length≤i.1∧i.2.2≤1000∧(∀ n ∈ i.2.1,n.length≤10)∧depF [] 0 l=depF i.2.1 i.2.2 (l.drop i.1)) (fun i=>l.length - i.1) (0,[],0) (by omega) (by dsimp only;exact ⟨Nat.zero_le _,Nat.zero_le _,Nat.zero_le _,(fun n hn=>by cases hn),rfl⟩) ?_ ?_
 · simp [fits,fitsT,fitsM,upd_def,PV.nmb,MB.nmb,strs]
 rintro ⟨k,st,m⟩ ⟨hk,hs,hm,hn,hd⟩
 dsimp only at hk hs hm hn hd
 simp only [mkS,mkT,mkM]
 have hrl:(strs st.reverse).length=st.length:=by simp [strs]
 by_cases hkl:k<l.length
 · obtain ⟨⟨kd,nm,v,ps⟩,hx⟩:=get_some (xs:=l) (k:=k) hkl
   have hsk:=smTk_at hsm hx
   obtain ⟨b1,b2,b3,b4⟩:=hsk
   dsimp only at b1 b2 b3 b4
   have hg:(encTks l)[k]?=some [.int .i64 kd,.str nm,.str v,.seq (encPrs ps)]:=by rw [encTks_get,hx];rfl
   rw [drop_tk hx] at hd
   by_cases k2:kd=2
   · subst k2
     cases hv:voidN nm with
     | false =>
       rw [dep_2 rfl hv] at hd
       have hnc: ∀ a ∈ nm::st,a.length≤10:=by
        intro a ha
        rcases List.mem_cons.1 ha with rfl|ha
        · exact b1
        · exact hn a ha
       have hmx:max (m:Int) ((st.length+1:Nat):Int)=((max m (st.length+1):Nat):Int):=by omega
       repeat' (first|((first|apply qwd|apply qa1|apply qa2|apply qh1|apply qg1 rfl|apply qcd);(try intro K hk);focus (simp only [lvX50_120,mkT,go_sem,Nat.reduceEqDiff,Nat.reduceAdd,Nat.reduceLeDiff,↓reduceIte,reduceCtorEq,hg,hv,hsl,hmx,strs_rev,List.length_reverse,List.length_cons,decide_true,decide_false,Int.reduceEq,Bool.not_false];first|exact rfl|((repeat refine ai ?_);intros;apply hk;clear hk K)))|apply qw1|refine qwc lvX50_120 ?_|apply qt1|apply qw5|apply qw2|apply qt4|apply qj1|apply qj4|apply qu1|(refine qj6 ?_ ?_<;>intro hc<;>(try simp only [hc])<;>(try simp only [decide_eq_true_eq,decide_eq_false_iff_not] at hc)<;>(try (exfalso;omega))))
       first
        | (refine s_againR ((k+1,nm::st,max m (st.length+1))) (fun i=>if i=0 then 1 else i) ?_ ?_ ?_ ?_ ?_ ?_<;>(first|omega|(dsimp only;omega)|(intro i hi;(try dsimp only);(repeat' split)<;>omega)|(intro i j hi hj h;(try dsimp only at h);(repeat' split at h)<;>omega)|skip)
           all_goals first|exact ⟨by dsimp only;omega,by dsimp only;(try simp only [List.length_cons]);omega,by dsimp only;omega,by dsimp only;assumption,by dsimp only;assumption⟩|(simp [fitsTR,PV.ren,upd_def,PV.nmb, *];done))
        | (refine s_againR ((k+1,nm::st,max m (st.length+1))) (fun i=>if i=0 then 2 else i) ?_ ?_ ?_ ?_ ?_ ?_<;>(first|omega|(dsimp only;omega)|(intro i hi;(try dsimp only);(repeat' split)<;>omega)|(intro i j hi hj h;(try dsimp only at h);(repeat' split at h)<;>omega)|skip)
           all_goals first|exact ⟨by dsimp only;omega,by dsimp only;(try simp only [List.length_cons]);omega,by dsimp only;omega,by dsimp only;assumption,by dsimp only;assumption⟩|(simp [fitsTR,PV.ren,upd_def,PV.nmb, *];done))
        | (refine s_againR ((k+1,nm::st,max m (st.length+1))) (fun i=>if i=0 then 3 else i) ?_ ?_ ?_ ?_ ?_ ?_<;>(first|omega|(dsimp only;omega)|(intro i hi;(try dsimp only);(repeat' split)<;>omega)|(intro i j hi hj h;(try dsimp only at h);(repeat' split at h)<;>omega)|skip)
           all_goals first|exact ⟨by dsimp only;omega,by dsimp only;(try simp only [List.length_cons]);omega,by dsimp only;omega,by dsimp only;assumption,by dsimp only;assumption⟩|(simp [fitsTR,fitsMR,PV.ren,MB.ren,upd_def,PV.nmb,MB.nmb, *];done))
        | (refine s_againR ((k+1,nm::st,max m (st.length+1))) (fun i=>if i=0 then 4 else i) ?_ ?_ ?_ ?_ ?_ ?_<;>(first|omega|(dsimp only;omega)|(intro i hi;(try dsimp only);(repeat' split)<;>omega)|(intro i j hi hj h;(try dsimp only at h);(repeat' split at h)<;>omega)|skip)
           all_goals first|exact ⟨by dsimp only;omega,by dsimp only;(try simp only [List.length_cons]);omega,by dsimp only;omega,by dsimp only;assumption,by dsimp only;assumption⟩|(simp [fitsTR,fitsMR,PV.ren,renL,MB.ren,upd_def,PV.nmb,nmbL,MB.nmb,List.getD_cons_zero,List.getD_cons_succ,frz,drp, *];done))
        | (refine s_againR ((k+1,nm::st,max m (st.length+1))) (fun i=>if i=0 then 5 else i) ?_ ?_ ?_ ?_ ?_ ?_<;>(first|omega|(dsimp only;omega)|(intro i hi;(try dsimp only);(repeat' split)<;>omega)|(intro i j hi hj h;(try dsimp only at h);(repeat' split at h)<;>omega)|skip)
           all_goals first|exact ⟨by dsimp only;omega,by dsimp only;(try simp only [List.length_cons]);omega,by dsimp only;omega,by dsimp only;assumption,by dsimp only;assumption⟩|(simp [fitsTR,fitsMR,PV.ren,renL,MB.ren,upd_def,PV.nmb,nmbL,MB.nmb,List.getD_cons_zero,List.getD_cons_succ,frz,drp, *];done))
     | true =>
       rw [dep_o (by show (2:Int)≠3;decide) (fun h=>by have h2:voidN nm=false:=h.2;rw [hv] at h2;cases h2)] at hd
       repeat' (first|((first|apply qwd|apply qa1|apply qa2|apply qh1|apply qg1 rfl|apply qcd);(try intro K hk);focus (simp only [lvX50_120,mkT,go_sem,Nat.reduceEqDiff,Nat.reduceAdd,Nat.reduceLeDiff,↓reduceIte,reduceCtorEq,hg,hv,decide_true,decide_false,Int.reduceEq,Bool.not_true];first|exact rfl|((repeat refine ai ?_);intros;apply hk;clear hk K)))|apply qw1|refine qwc lvX50_120 ?_|apply qt1|apply qw5|apply qw2|apply qt4|apply qj1|apply qj4|apply qu1|(refine qj6 ?_ ?_<;>intro hc<;>(try simp only [hc])<;>(try simp only [decide_eq_true_eq,decide_eq_false_iff_not] at hc)<;>(try (exfalso;omega))))
       refine s_again ((k+1,st,m)) ?_ ?_ ?_<;>(first|omega|(dsimp only;omega)|skip)
       · exact ⟨by dsimp only;omega,by dsimp only;omega,hm,hn,hd⟩
       · simp [fits,fitsT,fitsM,upd_def,PV.nmb,MB.nmb]
   by_cases k3:kd=3
   · subst k3
     rw [dep_3 rfl] at hd
     cases st with
     | nil =>
       repeat' (first|(refine s_draw 14 ?_ ?_;focus (decide +kernel))|(first|((first|apply qwd|apply qa1|apply qa2|apply qa3|apply qg1 rfl|apply qcd);(try intro K hk);focus (simp only [lvX50_120,mkT,go_sem,Nat.reduceEqDiff,Nat.reduceAdd,Nat.reduceLeDiff,↓reduceIte,reduceCtorEq,hg,hrl,hz0,List.length_nil,decide_true,decide_false,Int.reduceEq];first|exact rfl|((repeat refine ai ?_);intros;apply hk;clear hk K)))|apply qw8|apply qw1|refine qwc lvX50_120 ?_|apply qt1|apply qw5|apply qw2|apply qw9|apply qt3|apply qt6|apply qw4|apply qj1|apply qj3|apply qj4|apply qu1|apply qu2|(refine qj6 ?_ ?_<;>intro hc<;>(try simp only [hc])<;>(try simp only [decide_eq_true_eq,decide_eq_false_iff_not] at hc)<;>(try (exfalso;omega)))))
       ((first|refine fin_ret ?_|refine fin_end ?_);simp only [go_sem,↓upd_def,Nat.reduceEqDiff,↓reduceIte])
       refine K_eq hK ?_
       rw [hd]
       rfl
     | cons n q =>
       dsimp only at hd
       have hn1:=hn n List.mem_cons_self
       have hnc: ∀ a ∈ q,a.length≤10:=fun a ha=>hn a (List.mem_cons_of_mem _ ha)
       have htop:=strs_top n q
       have hpop:=strs_pop n q
       have htn:((q.length+1:Nat):Int) - 1=(q.length:Int):=by omega
       have hlz:decide (((q.length+1:Nat):Int)=0)=false:=decide_eq_false (by omega)
       rw [List.length_cons] at hrl hs
       have hql:q.length+1≤1000:=by omega
       by_cases hnn:n=nm
       · rw [if_pos hnn] at hd
         obtain rfl:nm=n:=hnn.symm
         repeat' (first|(refine s_draw 14 ?_ ?_;focus (decide +kernel))|(first|((first|apply qwd|apply qa1|apply qa2|apply qa3|apply qh2|apply qg1 rfl|apply qcd);(try intro K hk);focus (simp only [lvX50_120,mkT,go_sem,Nat.reduceEqDiff,Nat.reduceAdd,Nat.reduceLeDiff,↓reduceIte,reduceCtorEq,hg,hrl,htop,hpop,htn,hlz,Int.toNat_natCast,decide_true,decide_false,Int.reduceEq,Bool.not_true];first|exact rfl|((repeat refine ai ?_);intros;apply hk;clear hk K)))|apply qw8|apply qw1|refine qwc lvX50_120 ?_|apply qt1|apply qw5|apply qw2|apply qw9|apply qt4|apply qj1|apply qj2|apply qj4|apply qu1|apply qu2|(refine qj6 ?_ ?_<;>intro hc<;>(try simp only [hc])<;>(try simp only [decide_eq_true_eq,decide_eq_false_iff_not] at hc)<;>(try (exfalso;omega)))))
         first
          | (refine s_againR ((k+1,q,m)) (fun i=>if i=0 then 1 else i) ?_ ?_ ?_ ?_ ?_ ?_<;>(first|omega|(dsimp only;omega)|(intro i hi;(try dsimp only);(repeat' split)<;>omega)|(intro i j hi hj h;(try dsimp only at h);(repeat' split at h)<;>omega)|skip)
             all_goals first|exact ⟨by dsimp only;omega,by dsimp only;(try simp only [List.length_cons]);omega,by dsimp only;omega,by dsimp only;assumption,by dsimp only;assumption⟩|(simp [fitsTR,PV.ren,upd_def,PV.nmb, *];done))
          | (refine s_againR ((k+1,q,m)) (fun i=>if i=0 then 2 else i) ?_ ?_ ?_ ?_ ?_ ?_<;>(first|omega|(dsimp only;omega)|(intro i hi;(try dsimp only);(repeat' split)<;>omega)|(intro i j hi hj h;(try dsimp only at h);(repeat' split at h)<;>omega)|skip)
             all_goals first|exact ⟨by dsimp only;omega,by dsimp only;(try simp only [List.length_cons]);omega,by dsimp only;omega,by dsimp only;assumption,by dsimp only;assumption⟩|(simp [fitsTR,fitsMR,PV.ren,MB.ren,upd_def,PV.nmb,MB.nmb, *];done))
          | (refine s_againR ((k+1,q,m)) (fun i=>if i=0 then 3 else i) ?_ ?_ ?_ ?_ ?_ ?_<;>(first|omega|(dsimp only;omega)|(intro i hi;(try dsimp only);(repeat' split)<;>omega)|(intro i j hi hj h;(try dsimp only at h);(repeat' split at h)<;>omega)|skip)
             all_goals first|exact ⟨by dsimp only;omega,by dsimp only;(try simp only [List.length_cons]);omega,by dsimp only;omega,by dsimp only;assumption,by dsimp only;assumption⟩|(simp [fitsTR,fitsMR,PV.ren,renL,MB.ren,upd_def,PV.nmb,nmbL,MB.nmb,List.getD_cons_zero,List.getD_cons_succ,frz,drp, *];done))
          | (refine s_againR ((k+1,q,m)) (fun i=>if i=0 then 4 else i) ?_ ?_ ?_ ?_ ?_ ?_<;>(first|omega|(dsimp only;omega)|(intro i hi;(try dsimp only);(repeat' split)<;>omega)|(intro i j hi hj h;(try dsimp only at h);(repeat' split at h)<;>omega)|skip)
             all_goals first|exact ⟨by dsimp only;omega,by dsimp only;(try simp only [List.length_cons]);omega,by dsimp only;omega,by dsimp only;assumption,by dsimp only;assumption⟩|(simp [fitsTR,fitsMR,PV.ren,renL,MB.ren,upd_def,PV.nmb,nmbL,MB.nmb,List.getD_cons_zero,List.getD_cons_succ,frz,drp, *];done))
          | (refine s_againR ((k+1,q,m)) (fun i=>if i=0 then 5 else i) ?_ ?_ ?_ ?_ ?_ ?_<;>(first|omega|(dsimp only;omega)|(intro i hi;(try dsimp only);(repeat' split)<;>omega)|(intro i j hi hj h;(try dsimp only at h);(repeat' split at h)<;>omega)|skip)
             all_goals first|exact ⟨by dsimp only;omega,by dsimp only;(try simp only [List.length_cons]);omega,by dsimp only;omega,by dsimp only;assumption,by dsimp only;assumption⟩|(simp [fitsTR,fitsMR,PV.ren,renL,MB.ren,upd_def,PV.nmb,nmbL,MB.nmb,List.getD_cons_zero,List.getD_cons_succ,frz,drp, *];done))
       · rw [if_neg hnn] at hd
         repeat' (first|(refine s_draw 14 ?_ ?_;focus (decide +kernel))|(first|((first|apply qwd|apply qa1|apply qa2|apply qa3|apply qh2|apply qg1 rfl|apply qcd);(try intro K hk);focus (simp only [lvX50_120,mkT,go_sem,Nat.reduceEqDiff,Nat.reduceAdd,Nat.reduceLeDiff,↓reduceIte,reduceCtorEq,hg,hrl,htop,htn,hlz,hnn,Int.toNat_natCast,decide_true,decide_false,Int.reduceEq,Bool.not_false];first|exact rfl|((repeat refine ai ?_);intros;apply hk;clear hk K)))|apply qw8|apply qw1|refine qwc lvX50_120 ?_|apply qt1|apply qw5|apply qw2|apply qw9|apply qt3|apply qt6|apply qw4|apply qj1|apply qj2|apply qj4|apply qu1|apply qu2|(refine qj6 ?_ ?_<;>intro hc<;>(try simp only [hc])<;>(try simp only [decide_eq_true_eq,decide_eq_false_iff_not] at hc)<;>(try (exfalso;omega)))))
         ((first|refine fin_ret ?_|refine fin_end ?_);simp only [go_sem,↓upd_def,Nat.reduceEqDiff,↓reduceIte])
         refine K_eq hK ?_
         rw [hd]
         rfl
   · rw [dep_o k3 (fun h=>k2 h.1)] at hd
     repeat' (first|((first|apply qwd|apply qa1|apply qa2|apply qg1 rfl|apply qcd);(try intro K hk);focus (simp only [lvX50_120,mkT,go_sem,Nat.reduceEqDiff,Nat.reduceAdd,Nat.reduceLeDiff,↓reduceIte,reduceCtorEq,hg,k2,k3,decide_false];first|exact rfl|((repeat refine ai ?_);intros;apply hk;clear hk K)))|apply qw1|refine qwc lvX50_120 ?_|apply qt1|apply qw5|apply qw2|apply qt4|apply qj1|apply qj4|apply qu1|(refine qj6 ?_ ?_<;>intro hc<;>(try simp only [hc])<;>(try simp only [decide_eq_true_eq,decide_eq_false_iff_not] at hc)<;>(try (exfalso;omega))))
     refine s_again ((k+1,st,m)) ?_ ?_ ?_<;>(first|omega|(dsimp only;omega)|skip)
     · exact ⟨by dsimp only;omega,by dsimp only;omega,hm,hn,hd⟩
     · simp [fits,fitsT,fitsM,upd_def,PV.nmb,MB.nmb]
 · obtain rfl:k=l.length:=by omega
   rw [List.drop_length,dep_nil] at hd
   repeat' (first|((first|apply qwd|apply qa1|apply qcd);(try intro K hk);focus (simp only [lvX50_120,mkT,go_sem,Nat.reduceEqDiff,↓reduceIte,hrl];first|exact rfl|((repeat refine ai ?_);intros;apply hk;clear hk K)))|apply qw1|refine qwc lvX50_120 ?_|apply qt1|apply qt2|apply qt5|apply qw3|apply qw4|apply qj4|(refine qj6 ?_ ?_<;>intro hc<;>(try simp only [hc])<;>(try simp only [decide_eq_true_eq,decide_eq_false_iff_not] at hc)<;>(try (exfalso;omega))))
   ((first|refine fin_ret ?_|refine fin_end ?_);simp only [go_sem,↓upd_def,Nat.reduceEqDiff,↓reduceIte])
   refine K_eq hK ?_
   rw [hd]
   cases st<;>simp<;>omega
end Go.Proofs.YtnbjogilidfkdaaGreat

/- Contracts: balanced tokens. -/
namespace Go.Proofs.YtnbjogilidfkdaaGreat
attribute [local irreducible] awp arun acalm FinP Fin AX.then AX.inBlock Again aG gsel amix amixN amixC aop aopc aopd cutK
attribute [local go_sem] aBSliceD aSlice aSliceC boundOf aMk aCall aCallC aLenL aLen aPick_t aPick_f aNil aAlloc aBox aBuild bldPV aBSlice bsPV aApp newsOf destOf drp aConvX aConv aConvInt aLoad cellsAt aStore cellsPV setAt aFld aField aIdx aIndex aUn aBin' aBin aMax aExtract pvOf PV.isCell nmbL PV.nmb List.map_cons List.map_nil List.all_cons List.all_nil Bool.and_true Bool.true_and if_true if_false List.getD_cons_zero List.getD_cons_succ List.getD_nil Option.isSome_some true_and and_true and_self eq_self true_or or_true List.drop_zero List.drop_succ_cons List.drop_nil List.take_zero List.take_succ_cons List.take_nil List.length_cons List.length_nil List.length_map Option.getD_some Option.getD_none List.nil_append List.cons_append List.append_nil Option.some.injEq exists_eq_left' List.getElem?_cons_zero List.getElem?_cons_succ Int.toNat_natCast Int.natCast_inj toNat_succ Nat.zero_add res res1 resC owns owns1 ownsC List.flatMap_cons List.flatMap_nil List.flatten_cons List.flatten_nil List.mem_cons List.not_mem_nil or_false false_or forall_eq forall_eq_or_imp isFro frz frz1 pureC tabA isBld List.cons.injEq PV.seq.injEq PV.int.injEq PV.str.injEq PV.bool.injEq PV.agg.injEq inR tab Γof aRes packR Option.map_some Option.map_none rel Prod.exists exists_and_left exists_eq_left and_assoc beq_self_eq_true Bool.not_true Bool.not_false decide_true decide_false List.set_cons_zero List.set_cons_succ rst_nil rst_cons
attribute [local go_sem ↓] evT upd_def aop aopc aopd
set_option maxRecDepth 100000
set_option linter.unusedVariables false
set_option linter.unusedSimpArgs false
open Go.RowKit
def lvX51_85:Nat→List Nat
 | 0=>[0]
 | 1=>[4]
 | 2=>[2]
 | _=>[]
def lvX51_119:Nat→List Nat
 | 0=>[0]
 | 1=>[0,3]
 | 2=>[0,3,4]
 | 3=>[0,3,4,10]
 | 4=>[0,3,4]
 | 5=>[0,3,4,17]
 | 6=>[0,3,4,17,18]
 | 7=>[0,3,4,26]
 | 8=>[0,3,4]
 | 9=>[0,3,4,35]
 | 10=>[0,3,4,5]
 | 11=>[0,3,4,5,53]
 | 12=>[2]
 | 13=>[0,3,4]
 | 14=>[2]
 | _=>[]
--LV=X51
theorem ba_i:PureOk Tryz.prog 85 balC:=by
 refine pure_rel 1 (tab_cons dep_i tab_nil) mixed [.tmp 2] Tryz.func85 rfl rfl (by kernel_rfl) (by kernel_rfl) (fun _=>rfl) (by kernel_rfl) ?_
 rintro l K hsm hK
 have hb:=dep_bal l [] 0
 unfold entry
 repeat' (first|((first|apply qwd|apply qa1);(try intro K hk);focus (simp only [lvX51_85,mkT,go_sem,Nat.reduceEqDiff,↓reduceIte,reduceCtorEq,encTks_iff];first|exact rfl|((repeat refine ai ?_);intros;apply hk;clear hk K)))|apply qw1|refine qwc lvX51_85 ?_|apply qt1|apply qw4)
 ((first|refine fin_ret ?_|refine fin_end ?_);simp only [go_sem,↓upd_def,↓reduceIte])
 rw [hb]
 exact hK
set_option maxHeartbeats 8000000 in
theorem ba_s:PureOk Tryz.prog 119 balC:=by
 refine pure_rel 1 (tab_cons vo_s tab_nil) mixed [.tmp 2] Tryz.func119 rfl rfl (by kernel_rfl) (by kernel_rfl) (fun _=>rfl) (by kernel_rfl) ?_
 rintro l K hsm hK
 obtain ⟨hl,hall⟩:=id hsm
 have hst:=strs_all50
 have hsl:=strs_length
 have hz0:decide (((0:Nat):Int) - 1<0)=true:=by simp
 unfold entry
 repeat' (first|((first|apply qwd|apply qa1);(try intro K hk);focus (simp only [lvX51_119,mkT,go_sem,Nat.reduceEqDiff,↓reduceIte,reduceCtorEq];first|exact rfl|((repeat refine ai ?_);intros;apply hk;clear hk K)))|apply qw1|refine qwc lvX51_119 ?_|apply qt1|apply qw5)
 refine s_loop (ι:=Nat×List Bs) (fun i=>[(0,.seq (encTks l)),(3,.own 0),(4,.int .i64 i.1)]) (fun i=>[(0,.row 9 1 (strs i.2.reverse))]) 1 (fun i=>i.1≤l.length∧i.2.length≤i.1∧(∀ n ∈ i.2,n.length≤10)∧balF [] l=balF i.2 (l.drop i.1)) (fun i=>l.length - i.1) (0,[]) (by omega) (by dsimp only;exact ⟨Nat.zero_le _,Nat.zero_le _,(fun n hn=>by cases hn),rfl⟩) ?_ ?_
 · simp [fits,fitsT,fitsM,upd_def,PV.nmb,MB.nmb,strs]
 rintro ⟨k,st⟩ ⟨hk,hs,hn,hd⟩
 dsimp only at hk hs hn hd
 simp only [mkS,mkT,mkM]
 have hrl:(strs st.reverse).length=st.length:=by simp [strs]
 by_cases hkl:k<l.length
 · obtain ⟨⟨kd,nm,v,ps⟩,hx⟩:=get_some (xs:=l) (k:=k) hkl
   have hsk:=smTk_at hsm hx
   obtain ⟨b1,b2,b3,b4⟩:=hsk
   dsimp only at b1 b2 b3 b4
   have hg:(encTks l)[k]?=some [.int .i64 kd,.str nm,.str v,.seq (encPrs ps)]:=by rw [encTks_get,hx];rfl
   rw [drop_tk hx] at hd
   by_cases k2:kd=2
   · subst k2
     cases hv:voidN nm with
     | false =>
       rw [bal_2 rfl hv] at hd
       have hnc: ∀ a ∈ nm::st,a.length≤10:=by
        intro a ha
        rcases List.mem_cons.1 ha with rfl|ha
        · exact b1
        · exact hn a ha
       repeat' (first|((first|apply qwd|apply qa1|apply qcd);(try intro K hk);focus (simp only [lvX51_119,mkT,go_sem,Nat.reduceEqDiff,Nat.reduceAdd,Nat.reduceLeDiff,↓reduceIte,reduceCtorEq,encTks_len,hg,hv,hsl,strs_rev,List.length_reverse,List.length_cons,decide_true,Bool.not_false];first|exact rfl|((repeat refine ai ?_);intros;apply hk;clear hk K)))|apply qw1|refine qwc lvX51_119 ?_|apply qt1|apply qw5|apply qw2|apply qt4|apply qj1|(refine qj6 ?_ ?_<;>intro hc<;>(try simp only [hc])<;>(try simp only [decide_eq_true_eq,decide_eq_false_iff_not] at hc)<;>(try (exfalso;omega))))
       first
        | (refine s_againR ((k+1,nm::st)) (fun i=>if i=0 then 2 else i) ?_ ?_ ?_ ?_ ?_ ?_<;>(first|omega|(dsimp only;omega)|(intro i hi;(try dsimp only);(repeat' split)<;>omega)|(intro i j hi hj h;(try dsimp only at h);(repeat' split at h)<;>omega)|skip)
           all_goals first|exact ⟨by dsimp only;omega,by dsimp only;(try simp only [List.length_cons]);omega,by dsimp only;assumption,by dsimp only;assumption⟩|(simp [fitsTR,fitsMR,PV.ren,MB.ren,upd_def,PV.nmb,MB.nmb, *];done))
        | (refine s_againR ((k+1,nm::st)) (fun i=>if i=0 then 3 else i) ?_ ?_ ?_ ?_ ?_ ?_<;>(first|omega|(dsimp only;omega)|(intro i hi;(try dsimp only);(repeat' split)<;>omega)|(intro i j hi hj h;(try dsimp only at h);(repeat' split at h)<;>omega)|skip)
           all_goals first|exact ⟨by dsimp only;omega,by dsimp only;(try simp only [List.length_cons]);omega,by dsimp only;assumption,by dsimp only;assumption⟩|(simp [fitsTR,fitsMR,PV.ren,renL,MB.ren,upd_def,PV.nmb,nmbL,MB.nmb,List.getD_cons_zero,List.getD_cons_succ,frz,drp, *];done))
     | true =>
       rw [bal_o (by show (2:Int)≠3;decide) (fun h=>by have h2:voidN nm=false:=h.2;rw [hv] at h2;cases h2)] at hd
       repeat' (first|((first|apply qwd|apply qa1|apply qcd);(try intro K hk);focus (simp only [lvX51_119,mkT,go_sem,Nat.reduceEqDiff,Nat.reduceAdd,↓reduceIte,reduceCtorEq,encTks_len,hg,hv,decide_true,Bool.not_true];first|exact rfl|((repeat refine ai ?_);intros;apply hk;clear hk K)))|apply qw1|refine qwc lvX51_119 ?_|apply qt1|apply qw5|apply qw2|apply qt4|apply qj1|apply qj4|(refine qj6 ?_ ?_<;>intro hc<;>(try simp only [hc])<;>(try simp only [decide_eq_true_eq,decide_eq_false_iff_not] at hc)<;>(try (exfalso;omega))))
       refine s_again ((k+1,st)) ?_ ?_ ?_<;>(first|omega|(dsimp only;omega)|skip)
       · exact ⟨by dsimp only;omega,by dsimp only;omega,hn,hd⟩
       · simp [fits,fitsT,fitsM,upd_def,PV.nmb,MB.nmb]
   by_cases k3:kd=3
   · subst k3
     rw [bal_3 rfl] at hd
     cases st with
     | nil =>
       dsimp only at hd
       repeat' (first|(refine s_draw 14 ?_ ?_;focus (decide +kernel))|(first|((first|apply qwd|apply qa1|apply qa3|apply qg1 rfl|apply qcd);(try intro K hk);focus (simp only [lvX51_119,mkT,go_sem,Nat.reduceEqDiff,Nat.reduceAdd,↓reduceIte,reduceCtorEq,encTks_len,hg,hrl,hz0,List.length_nil,decide_true,decide_false,Int.reduceEq];first|exact rfl|((repeat refine ai ?_);intros;apply hk;clear hk K)))|apply qw8|apply qw1|refine qwc lvX51_119 ?_|apply qt1|apply qw5|apply qw2|apply qw9|apply qt3|apply qt6|apply qw4|apply qj1|apply qj3|apply qj4|apply qu2|(refine qj6 ?_ ?_<;>intro hc<;>(try simp only [hc])<;>(try simp only [decide_eq_true_eq,decide_eq_false_iff_not] at hc)<;>(try (exfalso;omega)))))
       ((first|refine fin_ret ?_|refine fin_end ?_);simp only [go_sem,↓upd_def,↓reduceIte])
       refine K_eq hK ?_
       rw [hd]
     | cons n q =>
       dsimp only at hd
       have hn1:=hn n List.mem_cons_self
       have hnc: ∀ a ∈ q,a.length≤10:=fun a ha=>hn a (List.mem_cons_of_mem _ ha)
       have htop:=strs_top n q
       have hpop:=strs_pop n q
       have htn:((q.length+1:Nat):Int) - 1=(q.length:Int):=by omega
       have hlz:decide ((q.length:Int)<0)=false:=decide_eq_false (by omega)
       rw [List.length_cons] at hrl hs
       have hql:q.length+1≤1000:=by omega
       by_cases hnn:n=nm
       · obtain rfl:nm=n:=hnn.symm
         rw [decide_eq_true rfl,Bool.true_and] at hd
         repeat' (first|(refine s_draw 14 ?_ ?_;focus (decide +kernel))|(first|((first|apply qwd|apply qa1|apply qa3|apply qh2|apply qg1 rfl|apply qcd);(try intro K hk);focus (simp only [lvX51_119,mkT,go_sem,Nat.reduceEqDiff,Nat.reduceAdd,↓reduceIte,reduceCtorEq,encTks_len,hg,hrl,htop,hpop,htn,hlz,Int.toNat_natCast,decide_true,decide_false,Int.reduceEq,Bool.not_true];first|exact rfl|((repeat refine ai ?_);intros;apply hk;clear hk K)))|apply qw8|apply qw1|refine qwc lvX51_119 ?_|apply qt1|apply qw5|apply qw2|apply qw9|apply qt4|apply qj1|apply qj2|apply qj4|apply qu2|(refine qj6 ?_ ?_<;>intro hc<;>(try simp only [hc])<;>(try simp only [decide_eq_true_eq,decide_eq_false_iff_not] at hc)<;>(try (exfalso;omega)))))
         first
          | (refine s_againR ((k+1,q)) (fun i=>if i=0 then 1 else i) ?_ ?_ ?_ ?_ ?_ ?_<;>(first|omega|(dsimp only;omega)|(intro i hi;(try dsimp only);(repeat' split)<;>omega)|(intro i j hi hj h;(try dsimp only at h);(repeat' split at h)<;>omega)|skip)
             all_goals first|exact ⟨by dsimp only;omega,by dsimp only;omega,by dsimp only;assumption,by dsimp only;assumption⟩|(simp [fitsTR,fitsMR,PV.ren,MB.ren,upd_def,PV.nmb,MB.nmb, *];done))
          | (refine s_againR ((k+1,q)) (fun i=>if i=0 then 2 else i) ?_ ?_ ?_ ?_ ?_ ?_<;>(first|omega|(dsimp only;omega)|(intro i hi;(try dsimp only);(repeat' split)<;>omega)|(intro i j hi hj h;(try dsimp only at h);(repeat' split at h)<;>omega)|skip)
             all_goals first|exact ⟨by dsimp only;omega,by dsimp only;omega,by dsimp only;assumption,by dsimp only;assumption⟩|(simp [fitsTR,fitsMR,PV.ren,renL,MB.ren,upd_def,PV.nmb,nmbL,MB.nmb,List.getD_cons_zero,List.getD_cons_succ,frz,drp, *];done))
       · rw [decide_eq_false hnn,Bool.false_and] at hd
         repeat' (first|(refine s_draw 14 ?_ ?_;focus (decide +kernel))|(first|((first|apply qwd|apply qa1|apply qa3|apply qh2|apply qg1 rfl|apply qcd);(try intro K hk);focus (simp only [lvX51_119,mkT,go_sem,Nat.reduceEqDiff,Nat.reduceAdd,↓reduceIte,reduceCtorEq,encTks_len,hg,hrl,htop,htn,hlz,hnn,Int.toNat_natCast,decide_true,decide_false,Int.reduceEq,Bool.not_false];first|exact rfl|((repeat refine ai ?_);intros;apply hk;clear hk K)))|apply qw8|apply qw1|refine qwc lvX51_119 ?_|apply qt1|apply qw5|apply qw2|apply qw9|apply qt3|apply qt6|apply qw4|apply qj1|apply qj2|apply qj4|apply qu2|(refine qj6 ?_ ?_<;>intro hc<;>(try simp only [hc])<;>(try simp only [decide_eq_true_eq,decide_eq_false_iff_not] at hc)<;>(try (exfalso;omega)))))
         ((first|refine fin_ret ?_|refine fin_end ?_);simp only [go_sem,↓upd_def,↓reduceIte])
         refine K_eq hK ?_
         rw [hd]
   · rw [bal_o k3 (fun h=>k2 h.1)] at hd
     repeat' (first|((first|apply qwd|apply qa1|apply qcd);(try intro K hk);focus (simp only [lvX51_119,mkT,go_sem,Nat.reduceEqDiff,Nat.reduceAdd,↓reduceIte,reduceCtorEq,encTks_len,hg,k2,k3,decide_false];first|exact rfl|((repeat refine ai ?_);intros;apply hk;clear hk K)))|apply qw1|refine qwc lvX51_119 ?_|apply qt1|apply qw5|apply qw2|apply qt4|apply qj1|apply qj4|(refine qj6 ?_ ?_<;>intro hc<;>(try simp only [hc])<;>(try simp only [decide_eq_true_eq,decide_eq_false_iff_not] at hc)<;>(try (exfalso;omega))))
     refine s_again ((k+1,st)) ?_ ?_ ?_<;>(first|omega|(dsimp only;omega)|skip)
     · exact ⟨by dsimp only;omega,by dsimp only;omega,hn,hd⟩
     · simp [fits,fitsT,fitsM,upd_def,PV.nmb,MB.nmb]
 · obtain rfl:k=l.length:=by omega
   rw [List.drop_length] at hd
   repeat' (first|((first|apply qwd|apply qa1|apply qcd);(try intro K hk);focus (simp only [lvX51_119,mkT,go_sem,Nat.reduceEqDiff,↓reduceIte,reduceCtorEq,encTks_len,hrl];first|exact rfl|((repeat refine ai ?_);intros;apply hk;clear hk K)))|apply qw1|refine qwc lvX51_119 ?_|apply qt1|apply qt2|apply qt5|apply qw3|apply qw4|apply qj4|(refine qj6 ?_ ?_<;>intro hc<;>(try simp only [hc])<;>(try simp only [decide_eq_true_eq,decide_eq_false_iff_not] at hc)<;>(try (exfalso;omega))))
   ((first|refine fin_ret ?_|refine fin_end ?_);simp only [go_sem,↓upd_def,↓reduceIte])
   refine K_eq hK ?_
   rw [hd]
   cases st<;>simp [balF]<;>omega
end Go.Proofs.YtnbjogilidfkdaaGreat
