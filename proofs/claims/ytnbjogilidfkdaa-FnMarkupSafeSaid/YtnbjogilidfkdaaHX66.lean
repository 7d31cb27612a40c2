/- Contracts: the reference's valid tokens (of tokens that may stay), printed tokens. -/
import Derived.Test.YtnbjogilidfkdaaHX62

namespace Go.Proofs.Ytnbjogilidfkdaa
attribute [local irreducible] awp arun acalm FinP Fin AX.then AX.inBlock Again aG gsel amix amixN amixC aop aopc aopd cutK
attribute [local go_sem] aBSliceD aSlice aSliceC boundOf aMk aCall aCallC aLenL aLen aPick_t aPick_f aNil aAlloc aBox aBuild bldPV aBSlice bsPV aApp newsOf destOf drp aConvX aConv aConvInt aLoad cellsAt aStore cellsPV setAt aFld aField aIdx aIndex aUn aBin' aBin aMax aExtract pvOf PV.isCell nmbL PV.nmb List.map_cons List.map_nil List.all_cons List.all_nil Bool.and_true Bool.true_and if_true if_false List.getD_cons_zero List.getD_cons_succ List.getD_nil Option.isSome_some true_and and_true and_self eq_self true_or or_true List.drop_zero List.drop_succ_cons List.drop_nil List.take_zero List.take_succ_cons List.take_nil List.length_cons List.length_nil List.length_map Option.getD_some Option.getD_none List.nil_append List.cons_append List.append_nil Option.some.injEq exists_eq_left' List.getElem?_cons_zero List.getElem?_cons_succ Int.toNat_natCast Int.natCast_inj toNat_succ Nat.zero_add res res1 resC owns owns1 ownsC List.flatMap_cons List.flatMap_nil List.flatten_cons List.flatten_nil List.mem_cons List.not_mem_nil or_false false_or forall_eq forall_eq_or_imp isFro frz frz1 pureC tabA isBld List.cons.injEq PV.seq.injEq PV.int.injEq PV.str.injEq PV.bool.injEq PV.agg.injEq inR tab Γof aRes packR Option.map_some Option.map_none rel Prod.exists exists_and_left exists_eq_left and_assoc beq_self_eq_true Bool.not_true Bool.not_false decide_true decide_false List.set_cons_zero List.set_cons_succ rst_nil rst_cons
attribute [local go_sem ↓] evT upd_def aop aopc aopd
set_option maxRecDepth 100000
set_option linter.unusedVariables false
set_option linter.unusedSimpArgs false
open Go.RowKit
def lvX66_78:Nat→List Nat
 | 0=>[0]
 | 1=>[0,4]
 | 2=>[0,4,8]
 | 3=>[2,3]
 | 4=>[0,4,5]
 | 5=>[0,4,5,12]
 | 6=>[0,4,5]
 | 7=>[0,4,5]
 | 8=>[0,4,5,24]
 | 9=>[2,3]
 | 10=>[2,3]
 | _=>[]
def lvX66_122:Nat→List Nat
 | 0=>[0]
 | 1=>[0,3]
 | 2=>[0,3,4]
 | 3=>[0,3,4,10]
 | 4=>[0,3,4]
 | 5=>[0,3,4,19]
 | 6=>[2]
 | 7=>[0,3,4]
 | 8=>[0,5]
 | 9=>[2]
 | _=>[]
def lvX66_123:Nat→List Nat
 | 0=>[1]
 | 1=>[1,6]
 | 2=>[1,6,7]
 | 3=>[2]
 | 4=>[1,6,12]
 | 5=>[2]
 | 6=>[1,6,18]
 | 7=>[2]
 | 8=>[1,24]
 | 9=>[2]
 | 10=>[1,3]
 | 11=>[1,3,4]
 | 12=>[1,3,4,35]
 | 13=>[1,3,4]
 | 14=>[1,3,4]
 | 15=>[2]
 | _=>[]
def lvX66_145:Nat→List Nat
 | 0=>[2,3]
 | 1=>[2,3,5]
 | 2=>[2,3,5,19]
 | 3=>[2,3,5,19,20]
 | 4=>[4]
 | 5=>[2,3,5,19,55]
 | 6=>[2,3,5,6]
 | 7=>[2,3,5,6,61]
 | 8=>[2,3,5,6]
 | 9=>[2,3,5,6,81]
 | 10=>[4]
 | 11=>[4]
 | 12=>[2,3,5,19,105]
 | 13=>[4]
 | 14=>[2,3,5,19,121]
 | 15=>[2,3,5,7]
 | 16=>[2,3,5,7,127]
 | 17=>[2,3,5,7]
 | 18=>[2,3,5,7,134]
 | 19=>[4]
 | 20=>[4]
 | 21=>[2,5,158]
 | 22=>[2,5,8]
 | 23=>[2,5,8,9]
 | 24=>[2,5,8,9,165]
 | 25=>[2,5,8,9]
 | 26=>[2,5,8,9]
 | 27=>[2,5,8,9,177]
 | 28=>[4]
 | 29=>[4]
 | 30=>[4]
 | _=>[]
--LV=X66
theorem prs_nil6 {a:List (Bs×Bs)}:([]:List (List PV))=encPrs a↔[]=a:=by rw [show ([]:List (List PV))=encPrs [] from rfl,encPrs_iff]
theorem ex_TZ {p:TokD×(Int×Bs×Bs)×List (Bs×Bs)→Prop}:(∃ x,p x)↔ ∃ k n v ps k' n' v' z,p (⟨k,n,v,ps⟩,(k',n',v'),z):=⟨fun ⟨(⟨k,n,v,ps⟩,(k',n',v'),z),h⟩=>⟨k,n,v,ps,k',n',v',z,h⟩,fun ⟨k,n,v,ps,k',n',v',z,h⟩=>⟨_,h⟩⟩
@[go_sem] def l6C:PC:=rel (α:=TokD×(Int×Bs×Bs)×List (Bs×Bs)) (fun x=>[.agg (encTk x.1),.agg [.int .i64 x.2.1.1,.str x.2.1.2.1,.str x.2.1.2.2,.seq (encPrs x.2.2)]]) (fun x=>x.1.name.length≤10∧x.1.value.length≤72000∧x.1.pairs.length≤60∧(∀ p ∈ x.1.pairs,p.1.length≤10∧p.2.length≤72000)∧(x.1.kind=1∨x.1.kind=2∨x.1.kind=3)∧x.2.1.1≠5∧insideT ⟨x.2.1.1,x.2.1.2.1,x.2.1.2.2,[]⟩=false) (fun x=> .bool (tvT ⟨x.2.1.1,x.2.1.2.1,x.2.1.2.2,[]⟩ x.1))
set_option maxHeartbeats 16000000 in
theorem l6_s:PureOk Try.prog 145 l6C:=by
 refine pure_rel 2 (tab_cons text_s (tab_cons name_s tab_nil)) mixed [.tmp 4] Try.func145 rfl rfl (by kernel_rfl) (by kernel_rfl) (fun _=>rfl) (by kernel_rfl) ?_
 rintro ⟨⟨kd,nm,v,ps⟩,⟨bk,bn,bv⟩,bps⟩ K ⟨b1,b2,b3,b4,g1,h5,hin⟩ hK
 dsimp only at b1 b2 b3 b4 g1 h5 hin hK
 have hb5:(bk=5)=False:=eq_false h5
 have hor:=inside_or hin
 have t1:=tv_1 h5 hin nm v ps
 have t2:=tv_2' h5 hin nm v ps b3
 have t3:=tv_3 ⟨bk,bn,bv,[]⟩ nm v ps
 dsimp only at t1
 have c0:((0:Nat):Int)=0:=rfl
 clear hin h5
 simp only [encTk_mk] at *
 unfold entry
 rcases hor with ⟨rfl,hbn⟩|hbn
 · rcases g1 with rfl|rfl|rfl
   · rw [t1] at hK
     rcases ps with _|⟨p0,ps⟩
     · repeat' (first|((first|apply qwd|apply qa1|apply qh1|apply qg1 rfl|apply qcd);(try intro K hk);focus (simp only [lvX66_145,mkT,go_sem,Nat.reduceEqDiff,Nat.reduceAdd,↓reduceIte,reduceCtorEq,Int.reduceEq,decide_true,decide_false,Bool.not_false,hbn,hb5,c0,encPrs_nil,List.length_nil];first|exact rfl|((repeat refine ai ?_);intros;apply hk;clear hk K)))|apply qw1|refine qwc lvX66_145 ?_|apply qt1|apply qw5|apply qt3|apply qt6|apply qw4|apply qj1|apply qj4|apply qu1|(refine qj6 ?_ ?_<;>intro hc<;>(try simp only [hc])<;>(try simp only [decide_eq_true_eq,decide_eq_false_iff_not,Bool.not_eq_true',Bool.not_eq_false'] at hc)<;>(try (exfalso;omega))))
       all_goals first
        | ((first|refine fin_ret ?_|refine fin_end ?_);simp only [go_sem,↓upd_def,↓reduceIte])
        | skip
       all_goals
        refine K_bool hK ?_
        first|(simp [*];done)|(simp_all;done)|grind
     · have cN:decide (((ps.length+1:Nat):Int)=0)=false:=decide_eq_false (by omega)
       repeat' (first|((first|apply qwd|apply qa1|apply qh1|apply qg1 rfl|apply qcd);(try intro K hk);focus (simp only [lvX66_145,mkT,go_sem,Nat.reduceEqDiff,Nat.reduceAdd,↓reduceIte,reduceCtorEq,encPrs_len,decide_true,decide_false,hbn,cN,List.length_cons];first|exact rfl|((repeat refine ai ?_);intros;apply hk;clear hk K)))|apply qw1|refine qwc lvX66_145 ?_|apply qt1|apply qw5|apply qt3|apply qt6|apply qw4|apply qj1|apply qj4|apply qu1|(refine qj6 ?_ ?_<;>intro hc<;>(try simp only [hc])<;>(try simp only [decide_eq_true_eq,decide_eq_false_iff_not] at hc)<;>(try (exfalso;omega))))
       all_goals first
        | ((first|refine fin_ret ?_|refine fin_end ?_);simp only [go_sem,↓upd_def,↓reduceIte])
        | skip
       all_goals
        refine K_bool hK ?_
        first|(simp [*];done)|(simp_all;done)|grind
   · rw [t2] at hK
     repeat' (first|((first|apply qwd|apply qa1|apply qh1|apply qg1 rfl|apply qcd);(try intro K hk);focus (simp only [lvX66_145,mkT,go_sem,Nat.reduceEqDiff,Nat.reduceAdd,↓reduceIte,reduceCtorEq,Int.reduceEq,decide_true,decide_false,hbn];first|exact rfl|((repeat refine ai ?_);intros;apply hk;clear hk K)))|apply qw1|refine qwc lvX66_145 ?_|apply qt1|apply qw5|apply qj1|apply qj4|apply qu1)
     refine s_loop (ι:=Nat) (fun j=>[(2,.ref 0 0),(3,.ref 1 0),(5,.bool false),(6,.int .i64 j)]) (fun j=>[(0,.box [.int .i64 2,.str nm,.str v,.seq (encPrs ps)]),(1,.box [.int .i64 2,.str bn,.str bv,.seq (encPrs bps)])]) 2 (fun j=>j≤ps.length∧(ps.take j).all prV=true) (fun j=>ps.length - j) 0 (by omega) ⟨Nat.zero_le _,rfl⟩ ?_ ?_
     · simp [fits,fitsT,fitsM,upd_def,PV.nmb,nmbL,MB.nmb]
     rintro j ⟨hj,hpv⟩
     simp only [mkS,mkT,mkM]
     by_cases hjl:j<ps.length
     · obtain ⟨⟨pn,pv⟩,hp⟩:=get_some (xs:=ps) (k:=j) hjl
       obtain ⟨c1,c2⟩:=b4 _ (List.mem_of_getElem? hp)
       have hpg:(encPrs ps)[j]?=some [.str pn,.str pv]:=by rw [encPrs_get,hp];rfl
       have hst:=fun h=>tkStop (p:=prV) hp h
       have hsg:=fun h=>tkTake (p:=prV) hp hpv h
       have hpe:prV (pn,pv)=(nameB pn && textB pv):=rfl
       rw [hpe] at hst hsg
       dsimp only at c1 c2
       repeat' (first|((first|apply qwd|apply qa1|apply qh1|apply qg1 rfl|apply qcd);(try intro K hk);focus (simp only [lvX66_145,mkT,go_sem,Nat.reduceEqDiff,Nat.reduceAdd,↓reduceIte,encPrs_len,hpg];first|exact rfl|((repeat refine ai ?_);intros;apply hk;clear hk K)))|apply qw1|refine qwc lvX66_145 ?_|apply qt1|apply qw5|apply qw2|apply qt3|apply qt4|apply qt6|apply qw4|apply qj1|apply qj2|apply qj3|apply qj4|apply qu1|(refine qj6 ?_ ?_<;>intro hc<;>(try simp only [hc])<;>(try simp only [decide_eq_true_eq,decide_eq_false_iff_not,Bool.not_eq_true',Bool.not_eq_false'] at hc)<;>(try (exfalso;omega))))
       all_goals first
        | (((first|refine fin_ret ?_|refine fin_end ?_);simp only [go_sem,↓upd_def,↓reduceIte])
           rw [hst (by simp [*])] at hK
           exact hK)
        | (refine s_again (j+1) ?_ ?_ ?_<;>(first|omega|(dsimp only;omega)|skip)
           all_goals first
            | exact ⟨by omega,hsg (by simp [*])⟩
            | (simp [fits,fitsT,fitsM,upd_def,PV.nmb,nmbL,MB.nmb];done))
     · obtain rfl:j=ps.length:=by omega
       rw [List.take_length] at hpv
       rw [hpv] at hK
       repeat' (first|((first|apply qwd|apply qa1|apply qh1|apply qg1 rfl|apply qcd);(try intro K hk);focus (simp only [lvX66_145,mkT,go_sem,Nat.reduceEqDiff,↓reduceIte,reduceCtorEq,encPrs_len,Int.lt_irrefl,decide_false,Bool.not_false,hb5];first|exact rfl|((repeat refine ai ?_);intros;apply hk;clear hk K)))|apply qw1|refine qwc lvX66_145 ?_|apply qt1|apply qt2|apply qt3|apply qt5|apply qt6|apply qw3|apply qw4|apply qj1|apply qj4|apply qu1|(refine qj6 ?_ ?_<;>intro hc<;>(try simp only [hc])<;>(try simp only [decide_eq_true_eq,decide_eq_false_iff_not] at hc)<;>(try (exfalso;omega))))
       all_goals
        ((first|refine fin_ret ?_|refine fin_end ?_);simp only [go_sem,↓upd_def,↓reduceIte])
        refine K_bool hK ?_
        first|(simp [*];done)|(simp_all;done)|grind
   · rw [t3] at hK
     rcases ps with _|⟨p0,ps⟩
     · repeat' (first|((first|apply qwd|apply qa1|apply qh1|apply qg1 rfl|apply qcd);(try intro K hk);focus (simp only [lvX66_145,mkT,go_sem,Nat.reduceEqDiff,Nat.reduceAdd,↓reduceIte,reduceCtorEq,Int.reduceEq,decide_true,decide_false,hbn,c0,encPrs_nil,List.length_nil];first|exact rfl|((repeat refine ai ?_);intros;apply hk;clear hk K)))|apply qw1|refine qwc lvX66_145 ?_|apply qt1|apply qw5|apply qt3|apply qt6|apply qw4|apply qj1|apply qj4|apply qu1|(refine qj6 ?_ ?_<;>intro hc<;>(try simp only [hc])<;>(try simp only [decide_eq_true_eq,decide_eq_false_iff_not] at hc)<;>(try (exfalso;omega))))
       all_goals first
        | ((first|refine fin_ret ?_|refine fin_end ?_);simp only [go_sem,↓upd_def,↓reduceIte])
        | skip
       all_goals
        refine K_bool hK ?_
        first|(simp [*];done)|(simp_all;done)|grind
     · have cN:decide (((ps.length+1:Nat):Int)=0)=false:=decide_eq_false (by omega)
       repeat' (first|((first|apply qwd|apply qa1|apply qh1|apply qg1 rfl|apply qcd);(try intro K hk);focus (simp only [lvX66_145,mkT,go_sem,Nat.reduceEqDiff,Nat.reduceAdd,↓reduceIte,reduceCtorEq,encPrs_len,Int.reduceEq,decide_true,decide_false,hbn,cN,List.length_cons];first|exact rfl|((repeat refine ai ?_);intros;apply hk;clear hk K)))|apply qw1|refine qwc lvX66_145 ?_|apply qt1|apply qw5|apply qt3|apply qt6|apply qw4|apply qj1|apply qj4|apply qu1|(refine qj6 ?_ ?_<;>intro hc<;>(try simp only [hc])<;>(try simp only [decide_eq_true_eq,decide_eq_false_iff_not] at hc)<;>(try (exfalso;omega))))
       all_goals first
        | ((first|refine fin_ret ?_|refine fin_end ?_);simp only [go_sem,↓upd_def,↓reduceIte])
        | skip
       all_goals
        refine K_bool hK ?_
        first|(simp [*];done)|(simp_all;done)|grind
 · rcases g1 with rfl|rfl|rfl
   · rw [t1] at hK
     rcases ps with _|⟨p0,ps⟩
     · repeat' (first|((first|apply qwd|apply qa1|apply qh1|apply qg1 rfl|apply qcd);(try intro K hk);focus (simp only [lvX66_145,mkT,go_sem,Nat.reduceEqDiff,Nat.reduceAdd,↓reduceIte,reduceCtorEq,decide_true,decide_false,Bool.not_false,hbn,hb5,c0,encPrs_nil,List.length_nil];first|exact rfl|((repeat refine ai ?_);intros;apply hk;clear hk K)))|apply qw1|refine qwc lvX66_145 ?_|apply qt1|apply qw5|apply qt3|apply qt6|apply qw4|apply qj1|apply qj4|apply qu1|(refine qj6 ?_ ?_<;>intro hc<;>(try simp only [hc])<;>(try simp only [decide_eq_true_eq,decide_eq_false_iff_not,Bool.not_eq_true',Bool.not_eq_false'] at hc)<;>(try (exfalso;omega))))
       all_goals first
        | ((first|refine fin_ret ?_|refine fin_end ?_);simp only [go_sem,↓upd_def,↓reduceIte])
        | skip
       all_goals
        refine K_bool hK ?_
        first|(simp [*];done)|(simp_all;done)|grind
     · have cN:decide (((ps.length+1:Nat):Int)=0)=false:=decide_eq_false (by omega)
       repeat' (first|((first|apply qwd|apply qa1|apply qh1|apply qg1 rfl|apply qcd);(try intro K hk);focus (simp only [lvX66_145,mkT,go_sem,Nat.reduceEqDiff,Nat.reduceAdd,↓reduceIte,reduceCtorEq,encPrs_len,decide_true,decide_false,hbn,cN,List.length_cons];first|exact rfl|((repeat refine ai ?_);intros;apply hk;clear hk K)))|apply qw1|refine qwc lvX66_145 ?_|apply qt1|apply qw5|apply qt3|apply qt6|apply qw4|apply qj1|apply qj4|apply qu1|(refine qj6 ?_ ?_<;>intro hc<;>(try simp only [hc])<;>(try simp only [decide_eq_true_eq,decide_eq_false_iff_not] at hc)<;>(try (exfalso;omega))))
       all_goals first
        | ((first|refine fin_ret ?_|refine fin_end ?_);simp only [go_sem,↓upd_def,↓reduceIte])
        | skip
       all_goals
        refine K_bool hK ?_
        first|(simp [*];done)|(simp_all;done)|grind
   · rw [t2] at hK
     repeat' (first|((first|apply qwd|apply qa1|apply qg1 rfl|apply qcd);(try intro K hk);focus (simp only [lvX66_145,mkT,go_sem,Nat.reduceEqDiff,Nat.reduceAdd,↓reduceIte,reduceCtorEq,Int.reduceEq,decide_true,decide_false,hbn];first|exact rfl|((repeat refine ai ?_);intros;apply hk;clear hk K)))|apply qw1|refine qwc lvX66_145 ?_|apply qt1|apply qw5|apply qj1|apply qj4|apply qu1)
     refine s_loop (ι:=Nat) (fun j=>[(2,.ref 0 0),(3,.ref 1 0),(5,.bool false),(6,.int .i64 j)]) (fun j=>[(0,.box [.int .i64 2,.str nm,.str v,.seq (encPrs ps)]),(1,.box [.int .i64 bk,.str bn,.str bv,.seq (encPrs bps)])]) 2 (fun j=>j≤ps.length∧(ps.take j).all prV=true) (fun j=>ps.length - j) 0 (by omega) ⟨Nat.zero_le _,rfl⟩ ?_ ?_
     · simp [fits,fitsT,fitsM,upd_def,PV.nmb,nmbL,MB.nmb]
     rintro j ⟨hj,hpv⟩
     simp only [mkS,mkT,mkM]
     by_cases hjl:j<ps.length
     · obtain ⟨⟨pn,pv⟩,hp⟩:=get_some (xs:=ps) (k:=j) hjl
       obtain ⟨c1,c2⟩:=b4 _ (List.mem_of_getElem? hp)
       have hpg:(encPrs ps)[j]?=some [.str pn,.str pv]:=by rw [encPrs_get,hp];rfl
       have hst:=fun h=>tkStop (p:=prV) hp h
       have hsg:=fun h=>tkTake (p:=prV) hp hpv h
       have hpe:prV (pn,pv)=(nameB pn && textB pv):=rfl
       rw [hpe] at hst hsg
       dsimp only at c1 c2
       repeat' (first|((first|apply qwd|apply qa1|apply qh1|apply qg1 rfl|apply qcd);(try intro K hk);focus (simp only [lvX66_145,mkT,go_sem,Nat.reduceEqDiff,Nat.reduceAdd,↓reduceIte,encPrs_len,hpg];first|exact rfl|((repeat refine ai ?_);intros;apply hk;clear hk K)))|apply qw1|refine qwc lvX66_145 ?_|apply qt1|apply qw5|apply qw2|apply qt3|apply qt4|apply qt6|apply qw4|apply qj1|apply qj2|apply qj3|apply qj4|apply qu1|(refine qj6 ?_ ?_<;>intro hc<;>(try simp only [hc])<;>(try simp only [decide_eq_true_eq,decide_eq_false_iff_not,Bool.not_eq_true',Bool.not_eq_false'] at hc)<;>(try (exfalso;omega))))
       all_goals first
        | (((first|refine fin_ret ?_|refine fin_end ?_);simp only [go_sem,↓upd_def,↓reduceIte])
           rw [hst (by simp [*])] at hK
           exact hK)
        | (refine s_again (j+1) ?_ ?_ ?_<;>(first|omega|(dsimp only;omega)|skip)
           all_goals first
            | exact ⟨by omega,hsg (by simp [*])⟩
            | (simp [fits,fitsT,fitsM,upd_def,PV.nmb,nmbL,MB.nmb];done))
     · obtain rfl:j=ps.length:=by omega
       rw [List.take_length] at hpv
       rw [hpv] at hK
       repeat' (first|((first|apply qwd|apply qa1|apply qh1|apply qg1 rfl|apply qcd);(try intro K hk);focus (simp only [lvX66_145,mkT,go_sem,Nat.reduceEqDiff,↓reduceIte,reduceCtorEq,encPrs_len,Int.lt_irrefl,decide_false,Bool.not_false,hb5];first|exact rfl|((repeat refine ai ?_);intros;apply hk;clear hk K)))|apply qw1|refine qwc lvX66_145 ?_|apply qt1|apply qt2|apply qt3|apply qt5|apply qt6|apply qw3|apply qw4|apply qj1|apply qj4|apply qu1|(refine qj6 ?_ ?_<;>intro hc<;>(try simp only [hc])<;>(try simp only [decide_eq_true_eq,decide_eq_false_iff_not] at hc)<;>(try (exfalso;omega))))
       all_goals
        ((first|refine fin_ret ?_|refine fin_end ?_);simp only [go_sem,↓upd_def,↓reduceIte])
        refine K_bool hK ?_
        first|(simp [*];done)|(simp_all;done)|grind
   · rw [t3] at hK
     rcases ps with _|⟨p0,ps⟩
     · repeat' (first|((first|apply qwd|apply qa1|apply qh1|apply qg1 rfl|apply qcd);(try intro K hk);focus (simp only [lvX66_145,mkT,go_sem,Nat.reduceEqDiff,Nat.reduceAdd,↓reduceIte,reduceCtorEq,Int.reduceEq,decide_true,decide_false,hbn,c0,encPrs_nil,List.length_nil];first|exact rfl|((repeat refine ai ?_);intros;apply hk;clear hk K)))|apply qw1|refine qwc lvX66_145 ?_|apply qt1|apply qw5|apply qt3|apply qt6|apply qw4|apply qj1|apply qj4|apply qu1|(refine qj6 ?_ ?_<;>intro hc<;>(try simp only [hc])<;>(try simp only [decide_eq_true_eq,decide_eq_false_iff_not] at hc)<;>(try (exfalso;omega))))
       all_goals first
        | ((first|refine fin_ret ?_|refine fin_end ?_);simp only [go_sem,↓upd_def,↓reduceIte])
        | skip
       all_goals
        refine K_bool hK ?_
        first|(simp [*];done)|(simp_all;done)|grind
     · have cN:decide (((ps.length+1:Nat):Int)=0)=false:=decide_eq_false (by omega)
       repeat' (first|((first|apply qwd|apply qa1|apply qh1|apply qg1 rfl|apply qcd);(try intro K hk);focus (simp only [lvX66_145,mkT,go_sem,Nat.reduceEqDiff,Nat.reduceAdd,↓reduceIte,reduceCtorEq,encPrs_len,Int.reduceEq,decide_true,decide_false,hbn,cN,List.length_cons];first|exact rfl|((repeat refine ai ?_);intros;apply hk;clear hk K)))|apply qw1|refine qwc lvX66_145 ?_|apply qt1|apply qw5|apply qt3|apply qt6|apply qw4|apply qj1|apply qj4|apply qu1|(refine qj6 ?_ ?_<;>intro hc<;>(try simp only [hc])<;>(try simp only [decide_eq_true_eq,decide_eq_false_iff_not] at hc)<;>(try (exfalso;omega))))
       all_goals first
        | ((first|refine fin_ret ?_|refine fin_end ?_);simp only [go_sem,↓upd_def,↓reduceIte])
        | skip
       all_goals
        refine K_bool hK ?_
        first|(simp [*];done)|(simp_all;done)|grind
def zP6:Option (List (Bs×Bs))→PV
 | none=> .nil
 | some ps=> .seq (encPrs ps)
def befZ (l:List TokD) (k:Nat):Option (List (Bs×Bs)):=if k=0 then none else some (befT l k).pairs
theorem befZ_succ {l:List TokD} {k:Nat} {t:TokD} (h:l[k]?=some t):befZ l (k+1)=some t.pairs:=by
 unfold befZ
 rw [if_neg (by omega),bef_succ h]
set_option maxHeartbeats 16000000 in
theorem tv_s:PureOk Try.prog 122 tvC:=by
 refine pure_rel 1 (tab_cons l6_s tab_nil) mixed [.tmp 2] Try.func122 rfl rfl (by kernel_rfl) (by kernel_rfl) (fun _=>rfl) (by kernel_rfl) ?_
 rintro l K ⟨hsm,hgd⟩ hK
 obtain ⟨hl,hall⟩:=id hsm
 unfold entry
 repeat' (first|((first|apply qwd|apply qa1|apply qa2);(try intro K hk);focus (simp only [lvX66_122,mkT,go_sem,Nat.reduceEqDiff,Nat.reduceAdd,Nat.reduceLeDiff,↓reduceIte,reduceCtorEq];first|exact rfl|((repeat refine ai ?_);intros;apply hk;clear hk K)))|apply qw1|refine qwc lvX66_122 ?_|apply qt1|apply qw5)
 refine s_loop (ι:=Nat) (fun k=>[(0,.seq (encTks l)),(3,.ref 0 0),(4,.int .i64 k)]) (fun k=>[(0,.box [.int .i64 (befT l k).kind,.str (befT l k).name,.str (befT l k).value,zP6 (befZ l k)])]) 1 (fun k=>k≤l.length∧tvF (befT l k) (l.drop k)=tvF tk0 l) (fun k=>l.length - k) 0 (by omega) ⟨Nat.zero_le _,rfl⟩ ?_ ?_
 · simp [fits,fitsT,fitsM,upd_def,PV.nmb,nmbL,MB.nmb,bef_zero,tk0,befZ,zP6]
 rintro k ⟨hk,hev⟩
 simp only [mkS,mkT,mkM]
 by_cases hkl:k<l.length
 · obtain ⟨⟨kd,nm,v,ps⟩,hx⟩:=get_some (xs:=l) (k:=k) hkl
   have hsk:=smTk_at hsm hx
   obtain ⟨b1,b2,b3,b4⟩:=hsk
   obtain ⟨g1,_,_⟩:=hgd _ (List.mem_of_getElem? hx)
   dsimp only at b1 b2 b3 b4 g1
   have hg:(encTks l)[k]?=some [.int .i64 kd,.str nm,.str v,.seq (encPrs ps)]:=by rw [encTks_get,hx];rfl
   obtain ⟨h5,hin⟩:=bef_kind hgd hk
   have hstop:=fun h=>tvF_stop (l:=l) (k:=k) hx h
   have hgo:=fun h=>tvF_go (l:=l) (k:=k) hx h
   have hbs:=bef_succ hx
   have hbz:=befZ_succ hx
   rw [hev] at hstop hgo
   generalize befZ l k=z at *
   generalize befT l k=bb at *
   obtain ⟨bk,bn,bv,bps⟩:=bb
   dsimp only at h5
   have hin:insideT ⟨bk,bn,bv,[]⟩=false:=hin
   have h5': ¬ bk=5:=h5
   have hgo:tvT ⟨bk,bn,bv,[]⟩ ⟨kd,nm,v,ps⟩=true→_:=hgo
   have hstop:tvT ⟨bk,bn,bv,[]⟩ ⟨kd,nm,v,ps⟩=false→_:=hstop
   cases hc9:tvT ⟨bk,bn,bv,[]⟩ ⟨kd,nm,v,ps⟩ with
   | false =>
     have htm:tvM l=false:=by unfold tvM;rw [hstop hc9];rfl
     rw [htm] at hK
     rcases z with _|zps
     all_goals simp only [zP6]
     all_goals
      repeat' (first|((first|apply qwd|apply qa1|apply qa3|apply qcd);(try intro K hk);focus (simp only [lvX66_122,mkT,go_sem,Nat.reduceEqDiff,Nat.reduceAdd,Nat.reduceLeDiff,↓reduceIte,reduceCtorEq,encTks_len,hg,ex_TZ,prs_nil6,encTk_mk,encPrs_iff,hc9,Bool.not_false];first|exact rfl|((repeat refine ai ?_);intros;apply hk;clear hk K)))|apply qw1|refine qwc lvX66_122 ?_|apply qt1|apply qw5|apply qw2|apply qw9|apply qt3|apply qt6|apply qw4|apply qj1|(refine qj6 ?_ ?_<;>intro hc<;>(try simp only [hc])<;>(try simp only [decide_eq_true_eq,decide_eq_false_iff_not] at hc)<;>(try (exfalso;omega)))|(refine qw7 ?_ ?_ ?_;(focus (decide +kernel));(focus (decide +kernel))))
      ((first|refine fin_ret ?_|refine fin_end ?_);simp only [go_sem,↓upd_def,↓reduceIte])
      exact hK
   | true =>
     have hg2:=hgo hc9
     rcases z with _|zps
     all_goals simp only [zP6]
     all_goals
      repeat' (first|((first|apply qwd|apply qa1|apply qa2|apply qa3|apply qcd);(try intro K hk);focus (simp only [lvX66_122,mkT,go_sem,Nat.reduceEqDiff,Nat.reduceAdd,Nat.reduceLeDiff,↓reduceIte,reduceCtorEq,encTks_len,hg,ex_TZ,prs_nil6,encTk_mk,encPrs_iff,hc9,Bool.not_true];first|exact rfl|((repeat refine ai ?_);intros;apply hk;clear hk K)))|apply qw1|refine qwc lvX66_122 ?_|apply qt1|apply qw5|apply qw2|apply qw9|apply qt4|apply qj1|apply qj4|(refine qj6 ?_ ?_<;>intro hc<;>(try simp only [hc])<;>(try simp only [decide_eq_true_eq,decide_eq_false_iff_not] at hc)<;>(try (exfalso;omega)))|(refine qw7 ?_ ?_ ?_;(focus (decide +kernel));(focus (decide +kernel))))
      refine s_again (k+1) ?_ ?_ ?_<;>(first|omega|(dsimp only;omega)|skip)
      all_goals first
       | exact ⟨by omega,hg2⟩
       | (simp [fits,fitsT,fitsM,upd_def,PV.nmb,nmbL,MB.nmb,hbs,hbz];done)
 · obtain rfl:k=l.length:=by omega
   obtain ⟨h5,hin⟩:=bef_kind hgd (Nat.le_refl l.length)
   rw [tvF_end hgd] at hev
   have htm:tvM l=decide (l.length≤60):=by unfold tvM;rw [← hev,Bool.true_and]
   rw [htm] at hK
   generalize zP6 (befZ l l.length)=z at *
   generalize befT l l.length=bb at *
   obtain ⟨bk,bn,bv,bps⟩:=bb
   dsimp only at h5
   have hb5:(bk=5)=False:=eq_false h5
   rcases inside_or hin with ⟨rfl,hbn⟩|hbn
   · repeat' (first|((first|apply qwd|apply qa1|apply qh1|apply qg1 rfl|apply qcd);(try intro K hk);focus (simp only [lvX66_122,mkT,go_sem,Nat.reduceEqDiff,↓reduceIte,reduceCtorEq,encTks_len,hbn,hb5,decide_true,decide_false,Bool.not_false];first|exact rfl|((repeat refine ai ?_);intros;apply hk;clear hk K)))|apply qw1|refine qwc lvX66_122 ?_|apply qt1|apply qt2|apply qt5|apply qw3|apply qw4|apply qj1|apply qj2|apply qj4|apply qu1|(refine qj6 ?_ ?_<;>intro hc<;>(try simp only [hc])<;>(try simp only [decide_eq_true_eq,decide_eq_false_iff_not] at hc)<;>(try (exfalso;omega))))
     all_goals
      ((first|refine fin_ret ?_|refine fin_end ?_);simp only [go_sem,↓upd_def,↓reduceIte])
      refine K_bool hK ?_
      first|(simp [*];done)|(simp_all;done)|grind
   · repeat' (first|((first|apply qwd|apply qa1|apply qh1|apply qg1 rfl|apply qcd);(try intro K hk);focus (simp only [lvX66_122,mkT,go_sem,Nat.reduceEqDiff,↓reduceIte,reduceCtorEq,encTks_len,hbn,hb5,decide_false,Bool.not_false];first|exact rfl|((repeat refine ai ?_);intros;apply hk;clear hk K)))|apply qw1|refine qwc lvX66_122 ?_|apply qt1|apply qt2|apply qt5|apply qw3|apply qw4|apply qj1|apply qj2|apply qj4|apply qu1|(refine qj6 ?_ ?_<;>intro hc<;>(try simp only [hc])<;>(try simp only [decide_eq_true_eq,decide_eq_false_iff_not] at hc)<;>(try (exfalso;omega))))
     all_goals
      ((first|refine fin_ret ?_|refine fin_end ?_);simp only [go_sem,↓upd_def,↓reduceIte])
      refine K_bool hK ?_
      first|(simp [*];done)|(simp_all;done)|grind
@[go_sem] def l7C:PC:=rel (α:=TokD) (fun x=>[.agg (encTk x)]) (fun x=>x.name.length≤10∧x.value.length≤72000∧x.pairs.length≤60∧(∀ p ∈ x.pairs,p.1.length≤10∧p.2.length≤72000)∧(x.kind=1∨x.kind=2∨x.kind=3)) (fun x=> .str (printT x))
set_option maxHeartbeats 16000000 in
theorem l7_s:PureOk Try.prog 123 l7C:=by
 refine pure_rel 1 (tab_cons esc_s tab_nil) mixed [.tmp 2] Try.func123 rfl rfl (by kernel_rfl) (by kernel_rfl) (fun _=>rfl) (by kernel_rfl) ?_
 rintro ⟨kd,nm,v,ps⟩ K ⟨b1,b2,b3,b4,g1⟩ hK
 dsimp only at b1 b2 b3 b4 g1 hK
 simp only [encTk_mk] at *
 unfold entry
 have he:=escT_len v
 rcases g1 with rfl|rfl|rfl
 · repeat' (first|((first|apply qwd|apply qa1|apply qcd);(try intro K hk);focus (simp only [lvX66_123,mkT,go_sem,Nat.reduceEqDiff,↓reduceIte,decide_true];first|exact rfl|((repeat refine ai ?_);intros;apply hk;clear hk K)))|apply qw1|refine qwc lvX66_123 ?_|apply qt1|apply qw5|apply qt3|apply qt6|apply qw4|apply qj1)
   ((first|refine fin_ret ?_|refine fin_end ?_);simp only [go_sem,↓upd_def,↓reduceIte])
   exact hK
 · have hT:printT ⟨2,nm,v,ps⟩=[60]++nm++ps.flatMap printP++[62]:=rfl
   rw [hT] at hK
   have htk:=printPs_take b4 b3
   repeat' (first|((first|apply qwd|apply qa1|apply qcd);(try intro K hk);focus (simp only [lvX66_123,mkT,go_sem,Nat.reduceEqDiff,↓reduceIte,Int.reduceEq,decide_false,List.length_cons,List.length_nil];first|exact rfl|((repeat refine ai ?_);intros;apply hk;clear hk K)))|apply qw1|refine qwc lvX66_123 ?_|apply qt1|apply qw5|apply qw2|apply qt4|apply qj4)
   refine s_loop (ι:=Nat) (fun j=>[(1,.ref 0 0),(3,.str ([60]++nm++(ps.take j).flatMap printP)),(4,.int .i64 j)]) (fun j=>[(0,.box [.int .i64 2,.str nm,.str v,.seq (encPrs ps)])]) 1 (fun j=>j≤ps.length) (fun j=>ps.length - j) 0 (by omega) (Nat.zero_le _) ?_ ?_
   · simp [fits,fitsT,fitsM,upd_def,PV.nmb,nmbL,MB.nmb]
   intro j hj
   simp only [mkS,mkT,mkM]
   have htj:=htk j
   by_cases hjl:j<ps.length
   · obtain ⟨⟨pn,pv⟩,hp⟩:=get_some (xs:=ps) (k:=j) hjl
     obtain ⟨c1,c2⟩:=b4 _ (List.mem_of_getElem? hp)
     have hpg:(encPrs ps)[j]?=some [.str pn,.str pv]:=by rw [encPrs_get,hp];rfl
     have hsp:=printPs_snoc hp
     have hP:printP (pn,pv)=[32]++pn++[61,34]++escT pv++[34]:=rfl
     have he:=escT_len pv
     dsimp only at c1 c2
     repeat' (first|(refine s_draw 19 ?_ ?_;focus (decide +kernel))|(first|((first|apply qwd|apply qa1|apply qa3|apply qcd);(try intro K hk);focus (simp only [lvX66_123,mkT,go_sem,Nat.reduceEqDiff,Nat.reduceAdd,Nat.reduceLeDiff,↓reduceIte,encPrs_len,hpg,Int.toNat_natCast,List.length_append,List.length_cons,List.length_nil];first|exact rfl|((repeat refine ai ?_);intros;apply hk;clear hk K)))|apply qw8|apply qw1|refine qwc lvX66_123 ?_|apply qt1|apply qw5|apply qw2|apply qw9|apply qt4|apply qj1|(refine qj6 ?_ ?_<;>intro hc<;>(try simp only [hc])<;>(try simp only [decide_eq_true_eq,decide_eq_false_iff_not] at hc)<;>(try (exfalso;omega)))))
     refine s_again (j+1) ?_ ?_ ?_<;>(first|omega|(dsimp only;omega)|skip)
     all_goals (simp [fits,fitsT,fitsM,upd_def,PV.nmb,nmbL,MB.nmb,hsp,hP];done)
   · obtain rfl:j=ps.length:=by omega
     rw [List.take_length] at *
     repeat' (first|((first|apply qwd|apply qa1|apply qcd);(try intro K hk);focus (simp only [lvX66_123,mkT,go_sem,Nat.reduceEqDiff,Nat.reduceLeDiff,↓reduceIte,encPrs_len,List.length_append,List.length_cons,List.length_nil];first|exact rfl|((repeat refine ai ?_);intros;apply hk;clear hk K)))|apply qw1|refine qwc lvX66_123 ?_|apply qt1|apply qt2|apply qt5|apply qw3|apply qw4|apply qj4|(refine qj6 ?_ ?_<;>intro hc<;>(try simp only [hc])<;>(try simp only [decide_eq_true_eq,decide_eq_false_iff_not] at hc)<;>(try (exfalso;omega))))
     ((first|refine fin_ret ?_|refine fin_end ?_);simp only [go_sem,↓upd_def,↓reduceIte])
     exact hK
 · repeat' (first|((first|apply qwd|apply qa1|apply qcd);(try intro K hk);focus (simp only [lvX66_123,mkT,go_sem,Nat.reduceEqDiff,Nat.reduceAdd,Nat.reduceLeDiff,↓reduceIte,Int.reduceEq,decide_true,decide_false,List.length_cons,List.length_nil];first|exact rfl|((repeat refine ai ?_);intros;apply hk;clear hk K)))|apply qw1|refine qwc lvX66_123 ?_|apply qt1|apply qw5|apply qt3|apply qt6|apply qw4|apply qj1|apply qj4)
   ((first|refine fin_ret ?_|refine fin_end ?_);simp only [go_sem,↓upd_def,↓reduceIte])
   exact hK
set_option maxHeartbeats 16000000 in
theorem pt_s:PureOk Try.prog 78 ptC:=by
 refine pure_rel 1 (tab_cons tv_s (tab_cons l7_s tab_nil)) mixed [.tmp 2,.tmp 3] Try.func78 rfl rfl (by kernel_rfl) (by kernel_rfl) (fun _=>rfl) (by kernel_rfl) ?_
 rintro l K hgd9 hK
 obtain ⟨hsm,hgd⟩:=id hgd9
 obtain ⟨hl,hall⟩:=id hsm
 unfold entry
 cases htv:tvM l with
 | false =>
   rw [pt_no htv] at hK
   repeat' (first|((first|apply qwd|apply qa1|apply qcd);(try intro K hk);focus (simp only [lvX66_78,mkT,go_sem,Nat.reduceEqDiff,↓reduceIte,reduceCtorEq,encTks_iff,htv,Bool.not_false];first|exact rfl|((repeat refine ai ?_);intros;apply hk;clear hk K)))|apply qw1|refine qwc lvX66_78 ?_|apply qt1|apply qt3|apply qw4|apply qj1)
   ((first|refine fin_ret ?_|refine fin_end ?_);simp only [go_sem,↓upd_def,Nat.reduceEqDiff,↓reduceIte])
   exact hK
 | true =>
 have hpb:=printL_bd hsm
 repeat' (first|((first|apply qwd|apply qa1|apply qcd);(try intro K hk);focus (simp only [lvX66_78,mkT,go_sem,Nat.reduceEqDiff,↓reduceIte,reduceCtorEq,encTks_iff,htv,Bool.not_true];first|exact rfl|((repeat refine ai ?_);intros;apply hk;clear hk K)))|apply qw1|refine qwc lvX66_78 ?_|apply qt1|apply qw5|apply qw2|apply qj4)
 refine s_loop (ι:=Nat) (fun k=>[(0,.seq (encTks l)),(4,.str (printL (l.take k))),(5,.int .i64 k)]) (fun _=>[]) 0 (fun k=>k≤l.length∧(printL (l.take k)).length≤600) (fun k=>l.length - k) 0 (by omega) ⟨Nat.zero_le _,by simp [printL]⟩ ?_ ?_
 · simp [fits,fitsT,fitsM,upd_def,PV.nmb,printL]
 rintro k ⟨hk,hp6⟩
 simp only [mkS,mkT,mkM]
 by_cases hkl:k<l.length
 · obtain ⟨⟨kd,nm,v,ps⟩,hx⟩:=get_some (xs:=l) (k:=k) hkl
   have hsk:=smTk_at hsm hx
   have hpl:=printT_len hsk
   obtain ⟨b1,b2,b3,b4⟩:=hsk
   obtain ⟨g1,_,_⟩:=hgd _ (List.mem_of_getElem? hx)
   dsimp only at b1 b2 b3 b4 g1
   have hg:(encTks l)[k]?=some [.int .i64 kd,.str nm,.str v,.seq (encPrs ps)]:=by rw [encTks_get,hx];rfl
   have hsn:=printL_snoc hx
   have hsl:(printL (l.take (k+1))).length=(printL (l.take k)).length+(printT ⟨kd,nm,v,ps⟩).length:=by rw [hsn,List.length_append]
   by_cases h6:(printL (l.take (k+1))).length≤600
   · repeat' (first|(refine s_draw 7 ?_ ?_;focus (decide +kernel))|(first|((first|apply qwd|apply qa1|apply qcd);(try intro K hk);focus (simp only [lvX66_78,mkT,go_sem,Nat.reduceEqDiff,Nat.reduceAdd,Nat.reduceLeDiff,↓reduceIte,reduceCtorEq,encTks_len,hg,ex_Tk,encTk_mk,encPrs_iff,List.length_append,Int.toNat_natCast];first|exact rfl|((repeat refine ai ?_);intros;apply hk;clear hk K)))|apply qw1|refine qwc lvX66_78 ?_|apply qt1|apply qw5|apply qw2|apply qt4|apply qj1|apply qj4|(refine qj6 ?_ ?_<;>intro hc<;>(try simp only [hc])<;>(try simp only [decide_eq_true_eq,decide_eq_false_iff_not] at hc)<;>(try (exfalso;omega)))))
     refine s_again (k+1) ?_ ?_ ?_<;>(first|omega|(dsimp only;omega)|skip)
     all_goals first
      | exact ⟨by omega,h6⟩
      | (simp [fits,fitsT,fitsM,upd_def,PV.nmb,hsn];done)
   · rw [pt_big (k:=k+1) (by omega)] at hK
     repeat' (first|(refine s_draw 7 ?_ ?_;focus (decide +kernel))|(first|((first|apply qwd|apply qa1|apply qcd);(try intro K hk);focus (simp only [lvX66_78,mkT,go_sem,Nat.reduceEqDiff,Nat.reduceAdd,Nat.reduceLeDiff,↓reduceIte,reduceCtorEq,encTks_len,hg,ex_Tk,encTk_mk,encPrs_iff,List.length_append,Int.toNat_natCast];first|exact rfl|((repeat refine ai ?_);intros;apply hk;clear hk K)))|apply qw1|refine qwc lvX66_78 ?_|apply qt1|apply qw5|apply qw2|apply qt3|apply qt6|apply qw4|apply qj1|(refine qj6 ?_ ?_<;>intro hc<;>(try simp only [hc])<;>(try simp only [decide_eq_true_eq,decide_eq_false_iff_not] at hc)<;>(try (exfalso;omega)))))
     ((first|refine fin_ret ?_|refine fin_end ?_);simp only [go_sem,↓upd_def,Nat.reduceEqDiff,↓reduceIte])
     exact hK
 · obtain rfl:k=l.length:=by omega
   rw [List.take_length] at *
   rw [pt_yes htv hp6] at hK
   repeat' (first|((first|apply qwd|apply qa1|apply qcd);(try intro K hk);focus (simp only [lvX66_78,mkT,go_sem,Nat.reduceEqDiff,↓reduceIte,reduceCtorEq,encTks_len];first|exact rfl|((repeat refine ai ?_);intros;apply hk;clear hk K)))|apply qw1|refine qwc lvX66_78 ?_|apply qt1|apply qt2|apply qt5|apply qw3|apply qw4|apply qj4|(refine qj6 ?_ ?_<;>intro hc<;>(try simp only [hc])<;>(try simp only [decide_eq_true_eq,decide_eq_false_iff_not] at hc)<;>(try (exfalso;omega))))
   ((first|refine fin_ret ?_|refine fin_end ?_);simp only [go_sem,↓upd_def,Nat.reduceEqDiff,↓reduceIte])
   exact hK
end Go.Proofs.Ytnbjogilidfkdaa
