/- Contracts: what a text is divided into (the program's reading). -/
import Derived.Test.YtnbjogilidfkdaaGreatVX53A
import Derived.Test.YtnbjogilidfkdaaGreatVX53D

namespace Go.Proofs.YtnbjogilidfkdaaGreat
attribute [local irreducible] awp arun acalm FinP Fin AX.then AX.inBlock Again aG gsel amix amixN amixC aop aopc aopd cutK
attribute [local go_sem] aBSliceD aSlice aSliceC boundOf aMk aCall aCallC aLenL aLen aPick_t aPick_f aNil aAlloc aBox aBuild bldPV aBSlice bsPV aApp newsOf destOf drp aConvX aConv aConvInt aLoad cellsAt aStore cellsPV setAt aFld aField aIdx aIndex aUn aBin' aBin aMax aExtract pvOf PV.isCell nmbL PV.nmb List.map_cons List.map_nil List.all_cons List.all_nil Bool.and_true Bool.true_and if_true if_false List.getD_cons_zero List.getD_cons_succ List.getD_nil Option.isSome_some true_and and_true and_self eq_self true_or or_true List.drop_zero List.drop_succ_cons List.drop_nil List.take_zero List.take_succ_cons List.take_nil List.length_cons List.length_nil List.length_map Option.getD_some Option.getD_none List.nil_append List.cons_append List.append_nil Option.some.injEq exists_eq_left' List.getElem?_cons_zero List.getElem?_cons_succ Int.toNat_natCast Int.natCast_inj toNat_succ Nat.zero_add res res1 resC owns owns1 ownsC List.flatMap_cons List.flatMap_nil List.flatten_cons List.flatten_nil List.mem_cons List.not_mem_nil or_false false_or forall_eq forall_eq_or_imp isFro frz frz1 pureC tabA isBld List.cons.injEq PV.seq.injEq PV.int.injEq PV.str.injEq PV.bool.injEq PV.agg.injEq inR tab Γof aRes packR Option.map_some Option.map_none rel Prod.exists exists_and_left exists_eq_left and_assoc beq_self_eq_true Bool.not_true Bool.not_false decide_true decide_false List.set_cons_zero List.set_cons_succ rst_nil rst_cons
attribute [local go_sem ↓] evT upd_def aop aopc aopd
set_option maxRecDepth 100000
set_option linter.unusedVariables false
set_option linter.unusedSimpArgs false
open Go.RowKit
def lvX53_9:Nat→List Nat
 | 0=>[0]
 | 1=>[0,15]
 | 2=>[2,3]
 | 3=>[0,4]
 | 4=>[0,4,5]
 | 5=>[0,4,5,6]
 | 6=>[0,4,5,6,7]
 | 7=>[0,4,5,6,7,8]
 | 8=>[0,4,5,6,7,8,23]
 | 9=>[0,4,5,6,7,8]
 | 10=>[0,4,5,6,7,8,9]
 | 11=>[0,4,5,6,7,8,9,10]
 | 12=>[0,4,5,6,7,8,9,10,32]
 | 13=>[2,3]
 | 14=>[0,4,5,6,7,8,9,10,36]
 | 15=>[0,4,5,6,7,8,9,10]
 | 16=>[0,4,5,6,7,8,9,10,49]
 | 17=>[0,4,5,6,7,8,9,10,55]
 | 18=>[0,4,5,7,8,9,10]
 | 19=>[0,4,5,6,7,8,9,10]
 | 20=>[0,4,5,6,7,8,9,10,63]
 | 21=>[0,4,5,6,7,8,9,10]
 | 22=>[0,4,5,6,7,8,9,10,73]
 | 23=>[0,4,5,6,7,8,9,10]
 | 24=>[0,4,5,6,7,8,9,10,88]
 | 25=>[0,4,5,7,8,9,10]
 | 26=>[0,4,5,6,7,8,9,10]
 | 27=>[0,4,5,6,7,8,9,10,103]
 | 28=>[0,4,5,6,7,8,9,10]
 | 29=>[0,4,5,6,7,8,9,10,111]
 | 30=>[0,4,5,6,7,8,9,10,122]
 | 31=>[0,4,5,7,8,9,10]
 | 32=>[0,4,5,6,7,8,9,10]
 | 33=>[0,4,5,6,7,8,9,10,133]
 | 34=>[0,4,5,6,7,8,9,10]
 | 35=>[0,4,5,6,7,8,9,10,148]
 | 36=>[0,4,5,6,7,8,9,10,11]
 | 37=>[0,4,5,6,7,8,9,10,11,153]
 | 38=>[0,4,5,6,7,8,10]
 | 39=>[0,4,5,6,7,8,9,10,11,170]
 | 40=>[0,4,5,6,7,8,10]
 | 41=>[0,4,5,6,7,8,9,10,11,181]
 | 42=>[0,4,5,6,7,8,10]
 | 43=>[0,4,5,6,7,8,10,214]
 | 44=>[0,4,5,6,7,8,10]
 | 45=>[0,4,5,6,7,8,10,228,229]
 | 46=>[0,4,5,6,7,8,10,228,229,230]
 | 47=>[0,4,5,6,7,8,10,12,228,229]
 | 48=>[0,4,5,6,7,8,10,228,229]
 | 49=>[0,4,5,6,7,8,10,228,229]
 | 50=>[0,4,5,6,7,8,10,248]
 | 51=>[2,3]
 | 52=>[0,4,5,6,7,8,10]
 | 53=>[0,4,5,6,7,8,10]
 | 54=>[0,4,5,6,7,8]
 | 55=>[4,6,257]
 | 56=>[2,3]
 | 57=>[4,6,260]
 | 58=>[4]
 | 59=>[4,270]
 | 60=>[2,3]
 | 61=>[2,3]
 | _=>[]
--LV=X53
set_option maxHeartbeats 40000000 in
theorem tok_i:PureOk Tryz.prog 9 tkC:=by
 refine pure_rel 1 (tab_cons text_i (tab_cons step_i (tab_cons un_i tab_nil))) mixed [.tmp 2,.tmp 3] Tryz.func9 rfl rfl (by kernel_rfl) (by kernel_rfl) (fun _=>rfl) (by kernel_rfl) ?_
 rintro s K hl hK
 unfold entry
 cases ht:textB s with
 | false =>
   rw [tokM_bad ht] at hK
   repeat' (first|((first|apply qwd|apply qa1|apply qa2|apply qa3|apply qh1|apply qh2|apply qg1 rfl|apply qcd);(try intro K hk);focus (simp only [lvX53_9,mkT,go_sem,Nat.reduceEqDiff,Nat.reduceAdd,Nat.reduceLeDiff,Nat.reduceLT,Nat.reduceSub,Int.reduceToNat,↓reduceIte,reduceCtorEq,ht,Bool.not_false];first|exact rfl|((repeat refine ai ?_);intros;apply hk;clear hk K)))|apply qw8|apply qw1|refine qwc lvX53_9 ?_|apply qt1|apply qw5|apply qw2|apply qw9|apply qt2|apply qt3|apply qt4|apply qt5|apply qt6|apply qw3|apply qw4|apply qj1|apply qj2|apply qj3|apply qj4|apply qj5|apply qu1|apply qu2|(refine qj6 ?_ ?_<;>intro hc<;>(try simp only [hc])<;>(try simp only [decide_eq_true_eq,decide_eq_false_iff_not,Bool.not_eq_true',Bool.not_eq_false',Bool.not_eq_true,reduceCtorEq] at hc)<;>(try (exfalso;omega)))|(refine qt7 ?_ ?_;focus decide)|(refine qw7 ?_ ?_ ?_;(focus (decide +kernel));(focus (decide +kernel))))
   ((first|refine fin_ret ?_|refine fin_end ?_);simp only [go_sem,↓upd_def,Nat.reduceEqDiff,Nat.reduceAdd,↓reduceIte,reduceCtorEq])
   exact hK
 | true =>
 have hsl:s.length≤600:=(textB_iff.1 ht).1
 repeat' (first|((first|apply qwd|apply qa1|apply qa2|apply qa3|apply qh1|apply qh2|apply qg1 rfl|apply qcd);(try intro K hk);focus (simp only [lvX53_9,mkT,go_sem,Nat.reduceEqDiff,Nat.reduceAdd,Nat.reduceLeDiff,Nat.reduceLT,Nat.reduceSub,Int.reduceToNat,↓reduceIte,reduceCtorEq,ht,Bool.not_true];first|exact rfl|((repeat refine ai ?_);intros;apply hk;clear hk K)))|apply qw8|apply qw1|refine qwc lvX53_9 ?_|apply qt1|apply qw5|apply qw2|apply qw9|apply qt2|apply qt3|apply qt4|apply qt5|apply qt6|apply qw3|apply qw4|apply qj1|apply qj2|apply qj3|apply qj4|apply qj5|apply qu1|apply qu2|(refine qj6 ?_ ?_<;>intro hc<;>(try simp only [hc])<;>(try simp only [decide_eq_true_eq,decide_eq_false_iff_not,Bool.not_eq_true',Bool.not_eq_false',Bool.not_eq_true,reduceCtorEq] at hc)<;>(try (exfalso;omega)))|(refine qt7 ?_ ?_;focus decide)|(refine qw7 ?_ ?_ ?_;(focus (decide +kernel));(focus (decide +kernel))))
 refine s_loop (T53 s) M53 5 (good53 s) (mu53 s) (0,tkI0,true,false) (by omega) (by unfold good53;dsimp only [cond];exact ⟨Nat.zero_le _,TkAt.zero s,.inl rfl,rfl⟩) ?_ ?_
 · simp [T53,M53,fits,fitsT,fitsM,upd_def,PV.nmb,nmbL,MB.nmb,List.getD_cons_zero,List.getD_cons_succ,tkI0,st0,encS_mk,encTks_nil,kd53]
 rintro ⟨k,x,rb,pb⟩ ⟨hk,hx,hrb,hpb⟩
 dsimp only at hk hx hrb hpb
 by_cases hkl:k<s.length
 · have hm0:=step_modes hx.ok.v (s.getD k 0)
   have hsp:=hx.stop hkl ht
   obtain ⟨⟨m,tg,ta,ts⟩,raw,ps,out⟩:=x
   dsimp only at *
   generalize hb:s.getD k 0=b at *
   generalize hn:step ⟨m,tg,ta,ts⟩ b=nn at *
   obtain ⟨n,ng,na,ns⟩:=nn
   dsimp only at *
   rcases hm0 with h15|hm0
   · subst h15
     rw [hsp (by unfold tkStep;rw [hn];rfl)] at hK
     have hoS:=okS_of hx.ok.v
     have hoN:=okS_of (stV_step ⟨m,tg,ta,ts⟩ b)
     rw [hn] at hoN
     have hbl:=byte_lt s k
     rw [hb] at hbl
     cases rb<;>cases pb<;>simp only [T53,M53,mkS,mkT,mkM,cond_true,cond_false,List.append_nil,List.cons_append,List.nil_append]
     all_goals
      repeat' (first|((first|apply qwd|apply qa1|apply qa2|apply qa3|apply qh1|apply qh2|apply qg1 rfl|apply qcd);(try intro K hk);focus (simp only [lvX53_9,mkT,go_sem,Nat.reduceEqDiff,Nat.reduceAdd,Nat.reduceLeDiff,Nat.reduceLT,Nat.reduceSub,Int.reduceToNat,↓reduceIte,reduceCtorEq,hb,hn,encS_eq,ex_St,encS_mk,encTks_len,Int.reduceEq,decide_true,decide_false];first|exact rfl|((repeat refine ai ?_);intros;apply hk;clear hk K)))|apply qw8|apply qw1|refine qwc lvX53_9 ?_|apply qt1|apply qw5|apply qw2|apply qw9|apply qt2|apply qt3|apply qt4|apply qt5|apply qt6|apply qw3|apply qw4|apply qj1|apply qj2|apply qj3|apply qj4|apply qj5|apply qu1|apply qu2|(refine qj6 ?_ ?_<;>intro hc<;>(try simp only [hc])<;>(try simp only [decide_eq_true_eq,decide_eq_false_iff_not,Bool.not_eq_true',Bool.not_eq_false',Bool.not_eq_true,reduceCtorEq] at hc)<;>(try (exfalso;omega)))|(refine qt7 ?_ ?_;focus decide)|(refine qw7 ?_ ?_ ?_;(focus (decide +kernel));(focus (decide +kernel))))
      ((first|refine fin_ret ?_|refine fin_end ?_);simp only [go_sem,↓upd_def,Nat.reduceEqDiff,Nat.reduceAdd,↓reduceIte,reduceCtorEq])
      exact hK
   have hQ:tkStep ⟨⟨m,tg,ta,ts⟩,raw,ps,out⟩ b=none→K (.tup [.seq [],.bool false]):=fun e=>by rw [hsp e] at hK;exact hK
   rcases hm0 with ⟨hm,h|h⟩|⟨hm,h|h⟩|⟨hm,h|h|h|h⟩|⟨hm,h|h|h|h⟩|⟨hm,h|h|⟨h,_⟩|h|h⟩|⟨hm,h|h|h,_⟩|⟨hm,h|⟨h,_⟩⟩|⟨hm,h|⟨h,_⟩⟩|⟨hm,h|⟨h,_⟩|h|h⟩|⟨hm,h|h⟩|⟨hm,h|h⟩|⟨hm,h⟩|⟨hm,h⟩|⟨hm,h⟩|⟨hm,h|h⟩
   all_goals first
    | exact w53_00 hsl hkl hb hn hx hrb hpb (by omega) (by omega)
    | exact w53_01 hsl hkl hb hn hx hrb hpb (by omega) (by omega)
    | exact w53_12 hsl hkl hb hn hx hrb hpb (by omega) (by omega)
    | exact w53_1n hsl hkl hb hn hx hrb hpb (by omega) (by omega)
    | exact w53_90 hsl hkl hb hn hx hrb hpb (by omega) (by omega)
    | exact w53_99 hsl hkl hb hn hx hrb hpb (by omega) (by omega)
    | exact w53_100 hsl hkl hb hn hx hrb hpb (by omega) (by omega)
    | exact w53_1010 hsl hkl hb hn hx hrb hpb (by omega) (by omega)
    | exact w53_11n hsl hkl hb hn hx hrb hpb (by omega) (by omega)
    | exact w53_149 hsl hkl hb hn hx hrb hpb (by omega) (by omega)
    | exact w53_14n hsl hkl hb hn hx hrb hpb (by omega) (by omega)
    | exact w53_2n hsl hkl hb hn hx hrb hpb (by omega) (by omega)
    | exact w53_33 hsl hkl hb hn hx hrb hpb (by omega) (by omega)
    | exact w53_34 hsl hkl hb hn hx hrb hpb (by omega) (by omega)
    | exact w53_k hsl hkl hb hn hx hrb hpb (by omega) (by omega) (by omega)
    | exact w53_44 hsl hkl hb hn hx hrb hpb (by omega) (by omega)
    | exact w53_n8 hsl hkl hb hn hx hrb hpb (by omega) (by omega)
    | exact w53_66 hsl hkl hb hn hx hrb hpb (by omega) (by omega)
    | exact w53_77 hsl hkl hb hn hx hrb hpb (by omega) (by omega)
    | (refine w53_e0 hsl hkl hb hn hx hrb hpb (by omega) (by omega) ?_;intro e σ h2 h3;obtain ⟨τ,mm,nx⟩:=σ;dsimp only at h2 h3;(repeat' (first|((first|apply qwd|apply qa1|apply qa2|apply qa3|apply qh1|apply qh2|apply qg1 rfl|apply qcd);(try intro K hk);focus (simp only [lvX53_9,mkT,go_sem,Nat.reduceEqDiff,Nat.reduceAdd,Nat.reduceLeDiff,Nat.reduceLT,Nat.reduceSub,Int.reduceToNat,↓reduceIte,reduceCtorEq];first|exact rfl|((repeat refine ai ?_);intros;apply hk;clear hk K)))|apply qw8|apply qw1|refine qwc lvX53_9 ?_|apply qt1|apply qw5|apply qw2|apply qw9|apply qt2|apply qt3|apply qt4|apply qt5|apply qt6|apply qw3|apply qw4|apply qj1|apply qj2|apply qj3|apply qj4|apply qj5|apply qu1|apply qu2|(refine qj6 ?_ ?_<;>intro hc<;>(try simp only [hc])<;>(try simp only [decide_eq_true_eq,decide_eq_false_iff_not,Bool.not_eq_true',Bool.not_eq_false',Bool.not_eq_true,reduceCtorEq] at hc)<;>(try (exfalso;omega)))|(refine qt7 ?_ ?_;focus decide)|(refine qw7 ?_ ?_ ?_;(focus (decide +kernel));(focus (decide +kernel)))));refine fin_ret ?_;simp only [go_sem,h2,h3,not_false_eq_true,ne_eq,↓upd_def,Nat.reduceEqDiff,Nat.reduceAdd,↓reduceIte,reduceCtorEq];exact hQ e)
    | (refine w53_e11 hsl hkl hb hn hx hrb hpb (by omega) (by omega) ?_;intro e σ h2 h3;obtain ⟨τ,mm,nx⟩:=σ;dsimp only at h2 h3;(repeat' (first|((first|apply qwd|apply qa1|apply qa2|apply qa3|apply qh1|apply qh2|apply qg1 rfl|apply qcd);(try intro K hk);focus (simp only [lvX53_9,mkT,go_sem,Nat.reduceEqDiff,Nat.reduceAdd,Nat.reduceLeDiff,Nat.reduceLT,Nat.reduceSub,Int.reduceToNat,↓reduceIte,reduceCtorEq];first|exact rfl|((repeat refine ai ?_);intros;apply hk;clear hk K)))|apply qw8|apply qw1|refine qwc lvX53_9 ?_|apply qt1|apply qw5|apply qw2|apply qw9|apply qt2|apply qt3|apply qt4|apply qt5|apply qt6|apply qw3|apply qw4|apply qj1|apply qj2|apply qj3|apply qj4|apply qj5|apply qu1|apply qu2|(refine qj6 ?_ ?_<;>intro hc<;>(try simp only [hc])<;>(try simp only [decide_eq_true_eq,decide_eq_false_iff_not,Bool.not_eq_true',Bool.not_eq_false',Bool.not_eq_true,reduceCtorEq] at hc)<;>(try (exfalso;omega)))|(refine qt7 ?_ ?_;focus decide)|(refine qw7 ?_ ?_ ?_;(focus (decide +kernel));(focus (decide +kernel)))));refine fin_ret ?_;simp only [go_sem,h2,h3,not_false_eq_true,ne_eq,↓upd_def,Nat.reduceEqDiff,Nat.reduceAdd,↓reduceIte,reduceCtorEq];exact hQ e)
 · obtain rfl:k=s.length:=by omega
   rw [hx.fin (Nat.le_refl _) ht] at hK
   have hlo:=hx.lo
   have hbr:=hx.bd.raw
   have hz:=hx.ok.z
   clear hx
   obtain ⟨⟨m,tg,ta,ts⟩,raw,ps,out⟩:=x
   dsimp only at *
   by_cases hm:m=0
   · subst hm
     have hp0:ps=[]:=hz (by omega)
     subst hp0
     have hpb0:pb=false:=by
      cases pb
      · rfl
      · simp only [cond_true] at hpb;omega
     subst hpb0
     have nil_case:raw=[]→K (.tup [.seq (encTks (if 60<out.length then [] else out)),.bool (!decide (60<out.length))]):=by
      intro hr
      unfold tkFin at hK
      simp only [hr,ne_eq,not_true_eq_false,if_false,if_true,gt_iff_lt] at hK
      by_cases h6:60<out.length
      · rw [if_pos h6] at hK ⊢;rw [decide_eq_true h6];exact hK
      · rw [if_neg h6] at hK ⊢;rw [decide_eq_false h6];exact hK
     have cons_case:raw≠[]→K (.tup [.seq (encTks (if 60<out.length+1 then [] else out++[tkText (unT raw)])),.bool (!decide (60<out.length+1))]):=by
      intro hr
      unfold tkFin at hK
      simp only [hr,ne_eq,not_true_eq_false,if_false,gt_iff_lt,List.length_append,List.length_singleton] at hK
      by_cases h6:60<out.length+1
      · rw [if_pos h6] at hK ⊢;rw [decide_eq_true h6];exact hK
      · rw [if_neg h6] at hK ⊢;rw [decide_eq_false h6];exact hK
     clear hK
     cases rb
     · have hr0:raw=[]:=hrb
       have hK:=nil_case hr0
       subst hr0
       simp only [T53,M53,mkS,mkT,mkM,cond_true,cond_false,List.append_nil,List.cons_append,List.nil_append]
       repeat' (first|((first|apply qwd|apply qa1|apply qa2|apply qa3|apply qh1|apply qh2|apply qg1 rfl|apply qcd);(try intro K hk);focus (simp only [lvX53_9,mkT,go_sem,Nat.reduceEqDiff,Nat.reduceAdd,Nat.reduceLeDiff,Nat.reduceLT,Nat.reduceSub,Int.reduceToNat,↓reduceIte,reduceCtorEq,encS_eq,ex_St,encS_mk,encTks_len,encPrs_len,encTks_all,encPrs_all,bytes_all53,bytes_app53,tok_app53n,List.length_map,List.length_nil,List.length_cons,Int.reduceEq,Int.reduceLE,Int.reduceLT,decide_true,decide_false,Bool.not_true,Bool.not_false];first|exact rfl|((repeat refine ai ?_);intros;apply hk;clear hk K)))|apply qw8|apply qw1|refine qwc lvX53_9 ?_|apply qt1|apply qw5|apply qw2|apply qw9|apply qt2|apply qt3|apply qt4|apply qt5|apply qt6|apply qw3|apply qw4|apply qj1|apply qj2|apply qj3|apply qj4|apply qj5|apply qu1|apply qu2|(refine qj6 ?_ ?_<;>intro hc<;>(try simp only [hc])<;>(try simp only [decide_eq_true_eq,decide_eq_false_iff_not,Bool.not_eq_true',Bool.not_eq_false',Bool.not_eq_true,reduceCtorEq] at hc)<;>(try (exfalso;omega)))|(refine qt7 ?_ ?_;focus decide)|(refine qw7 ?_ ?_ ?_;(focus (decide +kernel));(focus (decide +kernel))))
       all_goals
        ((first|refine fin_ret ?_|refine fin_end ?_);simp only [go_sem,↓upd_def,Nat.reduceEqDiff,Nat.reduceAdd,↓reduceIte,reduceCtorEq])
        refine K_eq hK ?_
        (try split)<;>first|omega|(simp [encTks_nil, *];done)|(simp [encTks_nil, *];omega)
     · simp only [T53,M53,mkS,mkT,mkM,cond_true,cond_false,List.append_nil,List.cons_append,List.nil_append]
       by_cases hr0:raw=[]
       · have hK:=nil_case hr0
         subst hr0
         repeat' (first|((first|apply qwd|apply qa1|apply qa2|apply qa3|apply qh1|apply qh2|apply qg1 rfl|apply qcd);(try intro K hk);focus (simp only [lvX53_9,mkT,go_sem,Nat.reduceEqDiff,Nat.reduceAdd,Nat.reduceLeDiff,Nat.reduceLT,Nat.reduceSub,Int.reduceToNat,↓reduceIte,reduceCtorEq,encS_eq,ex_St,encS_mk,encTks_len,encPrs_len,encTks_all,encPrs_all,bytes_all53,bytes_app53,tok_app53n,List.length_map,List.length_nil,List.length_cons,Int.reduceEq,Int.reduceLE,Int.reduceLT,decide_true,decide_false,Bool.not_true,Bool.not_false];first|exact rfl|((repeat refine ai ?_);intros;apply hk;clear hk K)))|apply qw8|apply qw1|refine qwc lvX53_9 ?_|apply qt1|apply qw5|apply qw2|apply qw9|apply qt2|apply qt3|apply qt4|apply qt5|apply qt6|apply qw3|apply qw4|apply qj1|apply qj2|apply qj3|apply qj4|apply qj5|apply qu1|apply qu2|(refine qj6 ?_ ?_<;>intro hc<;>(try simp only [hc])<;>(try simp only [decide_eq_true_eq,decide_eq_false_iff_not,Bool.not_eq_true',Bool.not_eq_false',Bool.not_eq_true,reduceCtorEq] at hc)<;>(try (exfalso;omega)))|(refine qt7 ?_ ?_;focus decide)|(refine qw7 ?_ ?_ ?_;(focus (decide +kernel));(focus (decide +kernel))))
         all_goals
          ((first|refine fin_ret ?_|refine fin_end ?_);simp only [go_sem,↓upd_def,Nat.reduceEqDiff,Nat.reduceAdd,↓reduceIte,reduceCtorEq])
          refine K_eq hK ?_
          (try split)<;>first|omega|(simp [encTks_nil, *];done)|(simp [encTks_nil, *];omega)
       · have hK:=cons_case hr0
         have hrl:0<raw.length:=List.length_pos_iff.2 hr0
         repeat' (first|((first|apply qwd|apply qa1|apply qa2|apply qa3|apply qh1|apply qh2|apply qg1 rfl|apply qcd);(try intro K hk);focus (simp only [lvX53_9,mkT,go_sem,Nat.reduceEqDiff,Nat.reduceAdd,Nat.reduceLeDiff,Nat.reduceLT,Nat.reduceSub,Int.reduceToNat,↓reduceIte,reduceCtorEq,encS_eq,ex_St,encS_mk,encTks_len,encPrs_len,encTks_all,encPrs_all,bytes_all53,bytes_app53,tok_app53n,List.length_map,List.length_nil,List.length_cons,Int.reduceEq,Int.reduceLE,Int.reduceLT,decide_true,decide_false,Bool.not_true,Bool.not_false,List.length_append];first|exact rfl|((repeat refine ai ?_);intros;apply hk;clear hk K)))|apply qw8|apply qw1|refine qwc lvX53_9 ?_|apply qt1|apply qw5|apply qw2|apply qw9|apply qt2|apply qt3|apply qt4|apply qt5|apply qt6|apply qw3|apply qw4|apply qj1|apply qj2|apply qj3|apply qj4|apply qj5|apply qu1|apply qu2|(refine qj6 ?_ ?_<;>intro hc<;>(try simp only [hc])<;>(try simp only [decide_eq_true_eq,decide_eq_false_iff_not,Bool.not_eq_true',Bool.not_eq_false',Bool.not_eq_true,reduceCtorEq] at hc)<;>(try (exfalso;omega)))|(refine qt7 ?_ ?_;focus decide)|(refine qw7 ?_ ?_ ?_;(focus (decide +kernel));(focus (decide +kernel))))
         all_goals
          ((first|refine fin_ret ?_|refine fin_end ?_);simp only [go_sem,↓upd_def,Nat.reduceEqDiff,Nat.reduceAdd,↓reduceIte,reduceCtorEq])
          refine K_eq hK ?_
          (try split)<;>first|omega|(simp [encTks_nil,tkText, *];done)|(simp [encTks_nil,tkText, *];omega)
   · have e:tkFin ⟨⟨m,tg,ta,ts⟩,raw,ps,out⟩=none:=by unfold tkFin;rw [if_pos hm]
     rw [e] at hK
     cases rb<;>cases pb<;>simp only [T53,M53,mkS,mkT,mkM,cond_true,cond_false,List.append_nil,List.cons_append,List.nil_append]
     all_goals
      repeat' (first|((first|apply qwd|apply qa1|apply qa2|apply qa3|apply qh1|apply qh2|apply qg1 rfl|apply qcd);(try intro K hk);focus (simp only [lvX53_9,mkT,go_sem,Nat.reduceEqDiff,Nat.reduceAdd,Nat.reduceLeDiff,Nat.reduceLT,Nat.reduceSub,Int.reduceToNat,↓reduceIte,reduceCtorEq,hm,encS_mk,decide_true,decide_false,Bool.not_true,Bool.not_false];first|exact rfl|((repeat refine ai ?_);intros;apply hk;clear hk K)))|apply qw8|apply qw1|refine qwc lvX53_9 ?_|apply qt1|apply qw5|apply qw2|apply qw9|apply qt2|apply qt3|apply qt4|apply qt5|apply qt6|apply qw3|apply qw4|apply qj1|apply qj2|apply qj3|apply qj4|apply qj5|apply qu1|apply qu2|(refine qj6 ?_ ?_<;>intro hc<;>(try simp only [hc])<;>(try simp only [decide_eq_true_eq,decide_eq_false_iff_not,Bool.not_eq_true',Bool.not_eq_false',Bool.not_eq_true,reduceCtorEq] at hc)<;>(try (exfalso;omega)))|(refine qt7 ?_ ?_;focus decide)|(refine qw7 ?_ ?_ ?_;(focus (decide +kernel));(focus (decide +kernel))))
      ((first|refine fin_ret ?_|refine fin_end ?_);simp only [go_sem,↓upd_def,Nat.reduceEqDiff,Nat.reduceAdd,↓reduceIte,reduceCtorEq])
      exact hK
end Go.Proofs.YtnbjogilidfkdaaGreat
