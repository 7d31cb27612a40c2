/- Contracts: valid tokens (of tokens that may stay). -/
import Derived.Test.YtnbjogilidfkdaaHK31
import Derived.Test.YtnbjogilidfkdaaHX3
import Derived.Test.YtnbjogilidfkdaaHX1
import Derived.Test.YtnbjogilidfkdaaHXC

namespace Go.Proofs.Ytnbjogilidfkdaa
attribute [local irreducible] awp arun acalm FinP Fin AX.then AX.inBlock Again aG gsel amix amixN amixC aop aopc aopd cutK
attribute [local go_sem] aBSliceD aSlice aSliceC boundOf aMk aCall aCallC aLenL aLen aPick_t aPick_f aNil aAlloc aBox aBuild bldPV aBSlice bsPV aApp newsOf destOf drp aConvX aConv aConvInt aLoad cellsAt aStore cellsPV setAt aFld aField aIdx aIndex aUn aBin' aBin aMax aExtract pvOf PV.isCell nmbL PV.nmb List.map_cons List.map_nil List.all_cons List.all_nil Bool.and_true Bool.true_and if_true if_false List.getD_cons_zero List.getD_cons_succ List.getD_nil Option.isSome_some true_and and_true and_self eq_self true_or or_true List.drop_zero List.drop_succ_cons List.drop_nil List.take_zero List.take_succ_cons List.take_nil List.length_cons List.length_nil List.length_map Option.getD_some Option.getD_none List.nil_append List.cons_append List.append_nil Option.some.injEq exists_eq_left' List.getElem?_cons_zero List.getElem?_cons_succ Int.toNat_natCast Int.natCast_inj toNat_succ Nat.zero_add res res1 resC owns owns1 ownsC List.flatMap_cons List.flatMap_nil List.flatten_cons List.flatten_nil List.mem_cons List.not_mem_nil or_false false_or forall_eq forall_eq_or_imp isFro frz frz1 pureC tabA isBld List.cons.injEq PV.seq.injEq PV.int.injEq PV.str.injEq PV.bool.injEq PV.agg.injEq inR tab Γof aRes packR Option.map_some Option.map_none rel Prod.exists exists_and_left exists_eq_left and_assoc beq_self_eq_true Bool.not_true Bool.not_false decide_true decide_false List.set_cons_zero List.set_cons_succ rst_nil rst_cons
attribute [local go_sem ↓] evT upd_def aop aopc aopd
set_option maxRecDepth 100000
set_option linter.unusedVariables false
set_option linter.unusedSimpArgs false
open Go.RowKit
def lvX62_88:Nat→List Nat
 | 0=>[0]
 | 1=>[0,14]
 | 2=>[2]
 | 3=>[0,15,16,17]
 | 4=>[0,15,16,17,18]
 | 5=>[0,3,4,15,16,17]
 | 6=>[0,3,4,5,15,16,17]
 | 7=>[0,3,4,5,15,16,17,24]
 | 8=>[0,4,5,15,16,17]
 | 9=>[0,4,5,6,15,16,17]
 | 10=>[0,4,5,6,15,16,17,53]
 | 11=>[2]
 | 12=>[0,4,5,6,15,16,17,68]
 | 13=>[2]
 | 14=>[0,4,5,6,7,15,16,17]
 | 15=>[0,4,5,6,15,16,17,97]
 | 16=>[2]
 | 17=>[0,4,5,6,15,16,17,99]
 | 18=>[2]
 | 19=>[0,4,5,6,15,16,17,99,100]
 | 20=>[0,15,16,17,109]
 | 21=>[2]
 | 22=>[0,4,6,15,16,17,99,110]
 | 23=>[0,4,15,16,17,115]
 | 24=>[2]
 | 25=>[0,15,16,17,117,118,119]
 | 26=>[0,15,16,17,117,118,119,120]
 | 27=>[0,9,15,16,17,117,118,119]
 | 28=>[0,15,16,17,117,118,119,132]
 | 29=>[2]
 | 30=>[0,15,16,17,117,118,119]
 | 31=>[0,4,6,15,16,17,99,134]
 | 32=>[0,4,6,15,16,17,99,136]
 | 33=>[0,15,16,17,140]
 | 34=>[2]
 | 35=>[0,4,6,15,16,17,141]
 | 36=>[0,15,16,17,155]
 | 37=>[2]
 | 38=>[0,15,16,17]
 | 39=>[0,10]
 | 40=>[0,10,160]
 | 41=>[11]
 | 42=>[2]
 | 43=>[2]
 | _=>[]
--LV=X62
@[go_sem] def tvC:PC:=rel (α:=List TokD) (fun x=>[.seq (encTks x)]) gdTks (fun x=> .bool (tvM x))
def prV (p:Bs×Bs):Bool:=nameB p.1 && textB p.2
theorem tv_2' {b:TokD} (h5:b.kind≠5) (hi:insideT b=false) (n v:Bs) (ps:List (Bs×Bs)) (hp:ps.length≤60):tvT b ⟨2,n,v,ps⟩=(ps.all prV && nameB n && decide (v=[])):=tv_2 h5 hi n v ps hp
theorem inside_or {k:Int} {n v:Bs} {ps:List (Bs×Bs)} (h:insideT ⟨k,n,v,ps⟩=false):(k=2∧(n=[115,99,114,105,112,116])=False)∨(k=2)=False:=by
 by_cases hk:k=2
 · subst hk
   refine .inl ⟨rfl,eq_false fun e=>?_⟩
   subst e
   simp [insideT,script] at h
 · exact .inr (eq_false hk)
theorem text_nil {v:Bs} (h:textB v=false):v≠[]:=by
 rintro rfl
 revert h;decide
set_option maxHeartbeats 16000000 in
theorem tv_i:PureOk Try.prog 88 tvC:=by
 refine pure_rel 1 (tab_cons text_i (tab_cons name_i tab_nil)) mixed [.tmp 2] Try.func88 rfl rfl (by kernel_rfl) (by kernel_rfl) (fun _=>rfl) (by kernel_rfl) ?_
 rintro l K ⟨hsm,hgd⟩ hK
 obtain ⟨hl,hall⟩:=id hsm
 unfold entry
 by_cases h60:l.length≤60
 · have htm:tvM l=tvF tk0 l:=by unfold tvM;rw [decide_eq_true h60,Bool.and_true]
   rw [htm] at hK
   repeat' (first|((first|apply qwd|apply qa1|apply qcd);(try intro K hk);focus (simp only [lvX62_88,mkT,go_sem,Nat.reduceEqDiff,↓reduceIte,reduceCtorEq,encTks_len];first|exact rfl|((repeat refine ai ?_);intros;apply hk;clear hk K)))|apply qw1|refine qwc lvX62_88 ?_|apply qt1|apply qw5|apply qw2|apply qj4|(refine qj6 ?_ ?_<;>intro hc<;>(try simp only [hc])<;>(try simp only [decide_eq_true_eq,decide_eq_false_iff_not] at hc)<;>(try (exfalso;omega))))
   refine s_loop (ι:=Nat) (fun k=>[(0,.seq (encTks l)),(15,.seq (encTks l)),(16,.int .i64 l.length),(17,.int .i64 k)]) (fun _=>[]) 0 (fun k=>k≤l.length∧tvF (befT l k) (l.drop k)=tvF tk0 l) (fun k=>l.length - k) 0 (by omega) ⟨Nat.zero_le _,rfl⟩ ?_ ?_
   · simp [fits,fitsT,fitsM,upd_def,PV.nmb]
   rintro k ⟨hk,hev⟩
   simp only [mkS,mkT,mkM]
   by_cases hkl:k<l.length
   · obtain ⟨⟨kd,nm,v,ps⟩,hx⟩:=get_some (xs:=l) (k:=k) hkl
     have hsk:=smTk_at hsm hx
     obtain ⟨b1,b2,b3,b4⟩:=hsk
     obtain ⟨g1,_,_⟩:=hgd _ (List.mem_of_getElem? hx)
     dsimp only at b1 b2 b3 b4 g1
     have hve:textB v=false→v≠[]:=text_nil
     have hg:(encTks l)[k]?=some [.int .i64 kd,.str nm,.str v,.seq (encPrs ps)]:=by rw [encTks_get,hx];rfl
     obtain ⟨h5,hin⟩:=bef_kind hgd hk
     have hstop:=fun h=>tvF_stop (l:=l) (k:=k) hx h
     have hgo:=fun h=>tvF_go (l:=l) (k:=k) hx h
     rw [hev] at hstop hgo
     by_cases hk0:k=0
     · have hbz:befT l k=tk0:=by rw [hk0];rfl
       rw [hbz] at h5 hin hstop hgo
       have t1:=tv_1 h5 hin nm v ps
       have t2:=tv_2' h5 hin nm v ps b3
       have t3:=tv_3 tk0 nm v ps
       have htop:tvT tk0 ⟨kd,nm,v,ps⟩=false→K (.bool false):=fun h=>by rw [hstop h] at hK;exact hK
       clear hstop
       have k0: ¬ 0<(k:Int):=by omega
       have hb1:decide (tk0.kind≠1)=true:=rfl
       rw [hb1] at t1
       rcases g1 with rfl|rfl|rfl
       · rw [t1] at htop hgo
         clear t1 t2 t3
         rcases ps with _|⟨p0,ps⟩
         all_goals
          repeat' (first|((first|apply qwd|apply qa1|apply qa2|apply qh1|apply qg1 rfl|apply qcd);(try intro K hk);focus (simp only [lvX62_88,mkT,go_sem,Nat.reduceEqDiff,Nat.reduceAdd,Nat.reduceLeDiff,↓reduceIte,reduceCtorEq,encPrs_len,hg,Int.reduceEq,decide_true,decide_false,Bool.not_false,k0,encPrs_nil,List.length_nil,List.length_cons];first|exact rfl|((repeat refine ai ?_);intros;apply hk;clear hk K)))|apply qw1|refine qwc lvX62_88 ?_|apply qt1|apply qw5|apply qw2|apply qt3|apply qt4|apply qt6|apply qw4|apply qj1|apply qj2|apply qj3|apply qj4|apply qj5|apply qu1|(refine qj6 ?_ ?_<;>intro hc<;>(try simp only [hc])<;>(try simp only [decide_eq_true_eq,decide_eq_false_iff_not,Bool.not_eq_true',Bool.not_eq_false'] at hc)<;>(try (exfalso;omega))))
          all_goals first
           | (((first|refine fin_ret ?_|refine fin_end ?_);simp only [go_sem,↓upd_def,↓reduceIte])
              exact htop (by simp [*]))
           | (refine s_again (k+1) ?_ ?_ ?_<;>(first|omega|(dsimp only;omega)|skip)
              all_goals first
               | exact ⟨by omega,hgo (by simp [*])⟩
               | (simp [fits,fitsT,fitsM,upd_def,PV.nmb];done))
       · rw [t2] at htop hgo
         clear t1 t2 t3
         repeat' (first|((first|apply qwd|apply qa1|apply qa2|apply qh1|apply qg1 rfl|apply qcd);(try intro K hk);focus (simp only [lvX62_88,mkT,go_sem,Nat.reduceEqDiff,Nat.reduceAdd,Nat.reduceLeDiff,↓reduceIte,reduceCtorEq,encPrs_len,hg,Int.reduceEq,decide_true,decide_false,Bool.not_true,k0];first|exact rfl|((repeat refine ai ?_);intros;apply hk;clear hk K)))|apply qw1|refine qwc lvX62_88 ?_|apply qt1|apply qw5|apply qw2|apply qt3|apply qt6|apply qw4|apply qj1|apply qj2|apply qj3|apply qj4|apply qj5|apply qu1|(refine qj6 ?_ ?_<;>intro hc<;>(try simp only [hc])<;>(try simp only [decide_eq_true_eq,decide_eq_false_iff_not,Bool.not_eq_true',Bool.not_eq_false'] at hc)<;>(try (exfalso;omega))))
         all_goals first
          | (((first|refine fin_ret ?_|refine fin_end ?_);simp only [go_sem,↓upd_def,↓reduceIte])
             exact htop (by simp [*]))
          | skip
         refine s_loop (ι:=Nat) (fun j=>[(0,.seq (encTks l)),(15,.seq (encTks l)),(16,.int .i64 l.length),(17,.int .i64 k),(117,.seq (encPrs ps)),(118,.int .i64 ps.length),(119,.int .i64 j)]) (fun _=>[]) 2 (fun j=>j≤ps.length∧(ps.take j).all prV=true) (fun j=>ps.length - j) 0 (by omega) ⟨Nat.zero_le _,rfl⟩ ?_ ?_
         · simp [fits,fitsT,fitsM,upd_def,PV.nmb]
         rintro j ⟨hj,hpv⟩
         simp only [mkS,mkT,mkM]
         by_cases hjl:j<ps.length
         · obtain ⟨⟨pn,pv⟩,hp⟩:=get_some (xs:=ps) (k:=j) hjl
           obtain ⟨c1,c2⟩:=b4 _ (List.mem_of_getElem? hp)
           have hpg:(encPrs ps)[j]?=some [.str pn,.str pv]:=by rw [encPrs_get,hp];rfl
           have hst:=fun h=>tkStop (p:=prV) hp h
           have hsg:=fun h=>tkTake (p:=prV) hp hpv h
           have hpe:prV (pn,pv)=(nameB pn && textB pv):=rfl
           rw [hpe] at hst hsg
           dsimp only at c1 c2
           repeat' (first|((first|apply qwd|apply qa1|apply qa2|apply qh1|apply qg1 rfl|apply qcd);(try intro K hk);focus (simp only [lvX62_88,mkT,go_sem,Nat.reduceEqDiff,Nat.reduceAdd,Nat.reduceLeDiff,↓reduceIte,reduceCtorEq,hpg];first|exact rfl|((repeat refine ai ?_);intros;apply hk;clear hk K)))|apply qw1|refine qwc lvX62_88 ?_|apply qt1|apply qw5|apply qw2|apply qt3|apply qt4|apply qt6|apply qw4|apply qj1|apply qj2|apply qj3|apply qj4|apply qu1|(refine qj6 ?_ ?_<;>intro hc<;>(try simp only [hc])<;>(try simp only [decide_eq_true_eq,decide_eq_false_iff_not,Bool.not_eq_true',Bool.not_eq_false'] at hc)<;>(try (exfalso;omega))))
           all_goals first
            | (((first|refine fin_ret ?_|refine fin_end ?_);simp only [go_sem,↓upd_def,↓reduceIte])
               exact htop (by rw [hst (by simp [*])];rfl))
            | (refine s_again (j+1) ?_ ?_ ?_<;>(first|omega|(dsimp only;omega)|skip)
               all_goals first
                | exact ⟨by omega,hsg (by simp [*])⟩
                | (simp [fits,fitsT,fitsM,upd_def,PV.nmb];done))
         · obtain rfl:j=ps.length:=by omega
           rw [List.take_length] at hpv
           repeat' (first|((first|apply qwd|apply qa1|apply qcd);(try intro K hk);focus (simp only [lvX62_88,mkT,go_sem,Nat.reduceEqDiff,↓reduceIte,reduceCtorEq,Int.lt_irrefl,decide_false];first|exact rfl|((repeat refine ai ?_);intros;apply hk;clear hk K)))|apply qw1|refine qwc lvX62_88 ?_|apply qt1|apply qt2|apply qt4|apply qt5|apply qw3|apply qj4)
           refine s_again (k+1) ?_ ?_ ?_<;>(first|omega|(dsimp only;omega)|skip)
           all_goals first
            | exact ⟨by omega,hgo (by simp [*])⟩
            | (simp [fits,fitsT,fitsM,upd_def,PV.nmb];done)
       · rw [t3] at htop hgo
         clear t1 t2 t3
         rcases ps with _|⟨p0,ps⟩
         all_goals
          repeat' (first|((first|apply qwd|apply qa1|apply qa2|apply qh1|apply qg1 rfl|apply qcd);(try intro K hk);focus (simp only [lvX62_88,mkT,go_sem,Nat.reduceEqDiff,Nat.reduceAdd,Nat.reduceLeDiff,↓reduceIte,reduceCtorEq,encPrs_len,hg,Int.reduceEq,decide_true,decide_false,Bool.not_true,Bool.not_false,k0,encPrs_nil,List.length_nil,List.length_cons];first|exact rfl|((repeat refine ai ?_);intros;apply hk;clear hk K)))|apply qw1|refine qwc lvX62_88 ?_|apply qt1|apply qw5|apply qw2|apply qt3|apply qt4|apply qt6|apply qw4|apply qj1|apply qj2|apply qj3|apply qj4|apply qj5|apply qu1|(refine qj6 ?_ ?_<;>intro hc<;>(try simp only [hc])<;>(try simp only [decide_eq_true_eq,decide_eq_false_iff_not,Bool.not_eq_true',Bool.not_eq_false'] at hc)<;>(try (exfalso;omega))))
          all_goals first
           | (((first|refine fin_ret ?_|refine fin_end ?_);simp only [go_sem,↓upd_def,↓reduceIte])
              exact htop (by simp [*]))
           | (refine s_again (k+1) ?_ ?_ ?_<;>(first|omega|(dsimp only;omega)|skip)
              all_goals first
               | exact ⟨by omega,hgo (by simp [*])⟩
               | (simp [fits,fitsT,fitsM,upd_def,PV.nmb];done))
     · have hgb:(encTks l)[k - 1]?=some [.int .i64 (befT l k).kind,.str (befT l k).name,.str (befT l k).value,.seq (encPrs (befT l k).pairs)]:=by
        obtain ⟨t,ht⟩:=get_some (xs:=l) (k:=k - 1) (by omega)
        rw [bef_at hk0 ht,encTks_get,ht];rfl
       have k1:((k:Int) - 1).toNat=k - 1:=by omega
       generalize befT l k=bb at *
       obtain ⟨bk,bn,bv,bps⟩:=bb
       dsimp only at h5 hgb
       have hb5:(bk=5)=False:=eq_false h5
       have hor:=inside_or hin
       have t1:=tv_1 h5 hin nm v ps
       have t2:=tv_2' h5 hin nm v ps b3
       have t3:=tv_3 ⟨bk,bn,bv,bps⟩ nm v ps
       dsimp only at t1
       have htop:tvT ⟨bk,bn,bv,bps⟩ ⟨kd,nm,v,ps⟩=false→K (.bool false):=fun h=>by rw [hstop h] at hK;exact hK
       clear hstop
       rcases hor with ⟨rfl,hbn⟩|hbn
       all_goals
        rcases g1 with rfl|rfl|rfl
        · rw [t1] at htop hgo
          clear t1 t2 t3
          rcases ps with _|⟨p0,ps⟩
          all_goals
           repeat' (first|((first|apply qwd|apply qa1|apply qa2|apply qh1|apply qg1 rfl|apply qcd);(try intro K hk);focus (simp only [lvX62_88,mkT,go_sem,Nat.reduceEqDiff,Nat.reduceAdd,Nat.reduceLeDiff,↓reduceIte,reduceCtorEq,encPrs_len,hg,Int.reduceEq,decide_true,decide_false,Bool.not_false,k1,hgb,hbn,hb5,encPrs_nil,List.length_nil,List.length_cons];first|exact rfl|((repeat refine ai ?_);intros;apply hk;clear hk K)))|apply qw1|refine qwc lvX62_88 ?_|apply qt1|apply qw5|apply qw2|apply qt3|apply qt4|apply qt6|apply qw4|apply qj1|apply qj2|apply qj3|apply qj4|apply qj5|apply qu1|(refine qj6 ?_ ?_<;>intro hc<;>(try simp only [hc])<;>(try simp only [decide_eq_true_eq,decide_eq_false_iff_not,Bool.not_eq_true',Bool.not_eq_false'] at hc)<;>(try (exfalso;omega))))
           all_goals first
            | (((first|refine fin_ret ?_|refine fin_end ?_);simp only [go_sem,↓upd_def,↓reduceIte])
               exact htop (by simp [*]))
            | (refine s_again (k+1) ?_ ?_ ?_<;>(first|omega|(dsimp only;omega)|skip)
               all_goals first
                | exact ⟨by omega,hgo (by simp [*])⟩
                | (simp [fits,fitsT,fitsM,upd_def,PV.nmb];done))
        · rw [t2] at htop hgo
          clear t1 t2 t3
          repeat' (first|((first|apply qwd|apply qa1|apply qa2|apply qh1|apply qg1 rfl|apply qcd);(try intro K hk);focus (simp only [lvX62_88,mkT,go_sem,Nat.reduceEqDiff,Nat.reduceAdd,Nat.reduceLeDiff,↓reduceIte,reduceCtorEq,encPrs_len,hg,Int.reduceEq,decide_true,decide_false,Bool.not_true,k1,hgb,hbn,hb5];first|exact rfl|((repeat refine ai ?_);intros;apply hk;clear hk K)))|apply qw1|refine qwc lvX62_88 ?_|apply qt1|apply qw5|apply qw2|apply qt3|apply qt6|apply qw4|apply qj1|apply qj2|apply qj3|apply qj4|apply qj5|apply qu1|(refine qj6 ?_ ?_<;>intro hc<;>(try simp only [hc])<;>(try simp only [decide_eq_true_eq,decide_eq_false_iff_not,Bool.not_eq_true',Bool.not_eq_false'] at hc)<;>(try (exfalso;omega))))
          all_goals first
           | (((first|refine fin_ret ?_|refine fin_end ?_);simp only [go_sem,↓upd_def,↓reduceIte])
              exact htop (by simp [*]))
           | skip
          refine s_loop (ι:=Nat) (fun j=>[(0,.seq (encTks l)),(15,.seq (encTks l)),(16,.int .i64 l.length),(17,.int .i64 k),(117,.seq (encPrs ps)),(118,.int .i64 ps.length),(119,.int .i64 j)]) (fun _=>[]) 2 (fun j=>j≤ps.length∧(ps.take j).all prV=true) (fun j=>ps.length - j) 0 (by omega) ⟨Nat.zero_le _,rfl⟩ ?_ ?_
          · simp [fits,fitsT,fitsM,upd_def,PV.nmb]
          rintro j ⟨hj,hpv⟩
          simp only [mkS,mkT,mkM]
          by_cases hjl:j<ps.length
          · obtain ⟨⟨pn,pv⟩,hp⟩:=get_some (xs:=ps) (k:=j) hjl
            obtain ⟨c1,c2⟩:=b4 _ (List.mem_of_getElem? hp)
            have hpg:(encPrs ps)[j]?=some [.str pn,.str pv]:=by rw [encPrs_get,hp];rfl
            have hst:=fun h=>tkStop (p:=prV) hp h
            have hsg:=fun h=>tkTake (p:=prV) hp hpv h
            have hpe:prV (pn,pv)=(nameB pn && textB pv):=rfl
            rw [hpe] at hst hsg
            dsimp only at c1 c2
            repeat' (first|((first|apply qwd|apply qa1|apply qa2|apply qh1|apply qg1 rfl|apply qcd);(try intro K hk);focus (simp only [lvX62_88,mkT,go_sem,Nat.reduceEqDiff,Nat.reduceAdd,Nat.reduceLeDiff,↓reduceIte,reduceCtorEq,hpg];first|exact rfl|((repeat refine ai ?_);intros;apply hk;clear hk K)))|apply qw1|refine qwc lvX62_88 ?_|apply qt1|apply qw5|apply qw2|apply qt3|apply qt4|apply qt6|apply qw4|apply qj1|apply qj2|apply qj3|apply qj4|apply qu1|(refine qj6 ?_ ?_<;>intro hc<;>(try simp only [hc])<;>(try simp only [decide_eq_true_eq,decide_eq_false_iff_not,Bool.not_eq_true',Bool.not_eq_false'] at hc)<;>(try (exfalso;omega))))
            all_goals first
             | (((first|refine fin_ret ?_|refine fin_end ?_);simp only [go_sem,↓upd_def,↓reduceIte])
                exact htop (by rw [hst (by simp [*])];rfl))
             | (refine s_again (j+1) ?_ ?_ ?_<;>(first|omega|(dsimp only;omega)|skip)
                all_goals first
                 | exact ⟨by omega,hsg (by simp [*])⟩
                 | (simp [fits,fitsT,fitsM,upd_def,PV.nmb];done))
          · obtain rfl:j=ps.length:=by omega
            rw [List.take_length] at hpv
            repeat' (first|((first|apply qwd|apply qa1|apply qcd);(try intro K hk);focus (simp only [lvX62_88,mkT,go_sem,Nat.reduceEqDiff,↓reduceIte,reduceCtorEq,Int.lt_irrefl,decide_false];first|exact rfl|((repeat refine ai ?_);intros;apply hk;clear hk K)))|apply qw1|refine qwc lvX62_88 ?_|apply qt1|apply qt2|apply qt4|apply qt5|apply qw3|apply qj4)
            refine s_again (k+1) ?_ ?_ ?_<;>(first|omega|(dsimp only;omega)|skip)
            all_goals first
             | exact ⟨by omega,hgo (by simp [*])⟩
             | (simp [fits,fitsT,fitsM,upd_def,PV.nmb];done)
        · rw [t3] at htop hgo
          clear t1 t2 t3
          rcases ps with _|⟨p0,ps⟩
          all_goals
           repeat' (first|((first|apply qwd|apply qa1|apply qa2|apply qh1|apply qg1 rfl|apply qcd);(try intro K hk);focus (simp only [lvX62_88,mkT,go_sem,Nat.reduceEqDiff,Nat.reduceAdd,Nat.reduceLeDiff,↓reduceIte,reduceCtorEq,encPrs_len,hg,Int.reduceEq,decide_true,decide_false,Bool.not_true,Bool.not_false,k1,hgb,hbn,hb5,encPrs_nil,List.length_nil,List.length_cons];first|exact rfl|((repeat refine ai ?_);intros;apply hk;clear hk K)))|apply qw1|refine qwc lvX62_88 ?_|apply qt1|apply qw5|apply qw2|apply qt3|apply qt4|apply qt6|apply qw4|apply qj1|apply qj2|apply qj3|apply qj4|apply qj5|apply qu1|(refine qj6 ?_ ?_<;>intro hc<;>(try simp only [hc])<;>(try simp only [decide_eq_true_eq,decide_eq_false_iff_not,Bool.not_eq_true',Bool.not_eq_false'] at hc)<;>(try (exfalso;omega))))
           all_goals first
            | (((first|refine fin_ret ?_|refine fin_end ?_);simp only [go_sem,↓upd_def,↓reduceIte])
               exact htop (by simp [*]))
            | (refine s_again (k+1) ?_ ?_ ?_<;>(first|omega|(dsimp only;omega)|skip)
               all_goals first
                | exact ⟨by omega,hgo (by simp [*])⟩
                | (simp [fits,fitsT,fitsM,upd_def,PV.nmb];done))
   · obtain rfl:k=l.length:=by omega
     rw [tvF_end hgd] at hev
     rw [← hev] at hK
     have hlast:0<l.length→ ∃ t,l[l.length - 1]?=some t∧(encTks l)[l.length - 1]?=some [.int .i64 t.kind,.str t.name,.str t.value,.seq (encPrs t.pairs)]∧insideT t=false∧t.kind≠5:=by
      intro h0
      obtain ⟨t,ht⟩:=get_some (xs:=l) (k:=l.length - 1) (by omega)
      obtain ⟨q1,q2⟩:=bef_kind hgd (Nat.le_refl _)
      rw [bef_at (by omega) ht] at q1 q2
      exact ⟨t,ht,by rw [encTks_get,ht];rfl,q2,q1⟩
     by_cases h0:0<l.length
     · obtain ⟨⟨bk,bn,bv,bps⟩,_,hgl,hin,h5⟩:=hlast h0
       dsimp only at hgl h5
       have hb5:(bk=5)=False:=eq_false h5
       have n1:((l.length:Int) - 1).toNat=l.length - 1:=by omega
       rcases inside_or hin with ⟨rfl,hbn⟩|hbn
       · repeat' (first|((first|apply qwd|apply qa1|apply qa2|apply qh1|apply qg1 rfl|apply qcd);(try intro K hk);focus (simp only [lvX62_88,mkT,go_sem,Nat.reduceEqDiff,Nat.reduceAdd,Nat.reduceLeDiff,↓reduceIte,reduceCtorEq,encTks_len,n1,hgl,hbn,hb5,decide_true,decide_false,Bool.not_false];first|exact rfl|((repeat refine ai ?_);intros;apply hk;clear hk K)))|apply qw1|refine qwc lvX62_88 ?_|apply qt1|apply qt2|apply qt3|apply qt5|apply qw3|apply qw4|apply qj1|apply qj4|apply qu1|(refine qj6 ?_ ?_<;>intro hc<;>(try simp only [hc])<;>(try simp only [decide_eq_true_eq,decide_eq_false_iff_not] at hc)<;>(try (exfalso;omega))))
         ((first|refine fin_ret ?_|refine fin_end ?_);simp only [go_sem,↓upd_def,↓reduceIte])
         exact hK
       · repeat' (first|((first|apply qwd|apply qa1|apply qa2|apply qh1|apply qg1 rfl|apply qcd);(try intro K hk);focus (simp only [lvX62_88,mkT,go_sem,Nat.reduceEqDiff,Nat.reduceAdd,Nat.reduceLeDiff,↓reduceIte,reduceCtorEq,encTks_len,n1,hgl,hbn,hb5,decide_false,Bool.not_false];first|exact rfl|((repeat refine ai ?_);intros;apply hk;clear hk K)))|apply qw1|refine qwc lvX62_88 ?_|apply qt1|apply qt2|apply qt3|apply qt5|apply qw3|apply qw4|apply qj1|apply qj4|apply qu1|(refine qj6 ?_ ?_<;>intro hc<;>(try simp only [hc])<;>(try simp only [decide_eq_true_eq,decide_eq_false_iff_not] at hc)<;>(try (exfalso;omega))))
         ((first|refine fin_ret ?_|refine fin_end ?_);simp only [go_sem,↓upd_def,↓reduceIte])
         exact hK
     · repeat' (first|((first|apply qwd|apply qa1|apply qcd);(try intro K hk);focus (simp only [lvX62_88,mkT,go_sem,Nat.reduceEqDiff,↓reduceIte,reduceCtorEq,encTks_len];first|exact rfl|((repeat refine ai ?_);intros;apply hk;clear hk K)))|apply qw1|refine qwc lvX62_88 ?_|apply qt1|apply qw2|apply qt2|apply qt5|apply qw3|apply qw4|apply qj4|(refine qj6 ?_ ?_<;>intro hc<;>(try simp only [hc])<;>(try simp only [decide_eq_true_eq,decide_eq_false_iff_not] at hc)<;>(try (exfalso;omega))))
       ((first|refine fin_ret ?_|refine fin_end ?_);simp only [go_sem,↓upd_def,↓reduceIte])
       exact hK
 · have htm:tvM l=false:=by unfold tvM;rw [decide_eq_false h60,Bool.and_false]
   rw [htm] at hK
   repeat' (first|((first|apply qwd|apply qa1|apply qcd);(try intro K hk);focus (simp only [lvX62_88,mkT,go_sem,↓reduceIte,reduceCtorEq,encTks_len];first|exact rfl|((repeat refine ai ?_);intros;apply hk;clear hk K)))|apply qw1|refine qwc lvX62_88 ?_|apply qt1|apply qt3|apply qw4|apply qj1|(refine qj6 ?_ ?_<;>intro hc<;>(try simp only [hc])<;>(try simp only [decide_eq_true_eq,decide_eq_false_iff_not] at hc)<;>(try (exfalso;omega))))
   ((first|refine fin_ret ?_|refine fin_end ?_);simp only [go_sem,↓upd_def,↓reduceIte])
   exact hK
end Go.Proofs.Ytnbjogilidfkdaa

/- Contracts: printed tokens, the program's. -/
namespace Go.Proofs.Ytnbjogilidfkdaa
attribute [local irreducible] awp arun acalm FinP Fin AX.then AX.inBlock Again aG gsel amix amixN amixC aop aopc aopd cutK
attribute [local go_sem] aBSliceD aSlice aSliceC boundOf aMk aCall aCallC aLenL aLen aPick_t aPick_f aNil aAlloc aBox aBuild bldPV aBSlice bsPV aApp newsOf destOf drp aConvX aConv aConvInt aLoad cellsAt aStore cellsPV setAt aFld aField aIdx aIndex aUn aBin' aBin aMax aExtract pvOf PV.isCell nmbL PV.nmb List.map_cons List.map_nil List.all_cons List.all_nil Bool.and_true Bool.true_and if_true if_false List.getD_cons_zero List.getD_cons_succ List.getD_nil Option.isSome_some true_and and_true and_self eq_self true_or or_true List.drop_zero List.drop_succ_cons List.drop_nil List.take_zero List.take_succ_cons List.take_nil List.length_cons List.length_nil List.length_map Option.getD_some Option.getD_none List.nil_append List.cons_append List.append_nil Option.some.injEq exists_eq_left' List.getElem?_cons_zero List.getElem?_cons_succ Int.toNat_natCast Int.natCast_inj toNat_succ Nat.zero_add res res1 resC owns owns1 ownsC List.flatMap_cons List.flatMap_nil List.flatten_cons List.flatten_nil List.mem_cons List.not_mem_nil or_false false_or forall_eq forall_eq_or_imp isFro frz frz1 pureC tabA isBld List.cons.injEq PV.seq.injEq PV.int.injEq PV.str.injEq PV.bool.injEq PV.agg.injEq inR tab Γof aRes packR Option.map_some Option.map_none rel Prod.exists exists_and_left exists_eq_left and_assoc beq_self_eq_true Bool.not_true Bool.not_false decide_true decide_false List.set_cons_zero List.set_cons_succ rst_nil rst_cons
attribute [local go_sem ↓] evT upd_def aop aopc aopd
set_option maxRecDepth 100000
set_option linter.unusedVariables false
set_option linter.unusedSimpArgs false
open Go.RowKit
def lvX64_58:Nat→List Nat
 | 0=>[0]
 | 1=>[0,11]
 | 2=>[2,3]
 | 3=>[0,4]
 | 4=>[4,12,13,14]
 | 5=>[4,12,13,14,15]
 | 6=>[4,6,12,13,14]
 | 7=>[4,6,12,13,14,19]
 | 8=>[4,6,12,13,14,19,20]
 | 9=>[4,12,13,14]
 | 10=>[4,6,12,13,14,19,26]
 | 11=>[4,6,12,13,14]
 | 12=>[4,12,13,14,33,34,35]
 | 13=>[4,12,13,14,33,34,35,36]
 | 14=>[4,8,12,13,14,33,34,35]
 | 15=>[4,12,13,14,33,34,35]
 | 16=>[4,12,13,14,33,34,35]
 | 17=>[4,12,13,14]
 | 18=>[4,6,12,13,14,19,51]
 | 19=>[4,12,13,14]
 | 20=>[4,6,12,13,14,19,58]
 | 21=>[4,12,13,14]
 | 22=>[4,6,12,13,14,65]
 | 23=>[4,12,13,14]
 | 24=>[4,12,13,14]
 | 25=>[4,73]
 | 26=>[2,3]
 | 27=>[2,3]
 | _=>[]
--LV=X64
@[go_sem] def ptC:PC:=rel (α:=List TokD) (fun x=>[.seq (encTks x)]) gdTks (fun x=> .tup [.str ((ptM x).getD []),.bool (ptM x).isSome])
set_option maxHeartbeats 16000000 in
theorem pt_i:PureOk Try.prog 58 ptC:=by
 refine pure_relA 1 (tabA_cons wstr_ok (tabA_cons bstr_ok (tabA_nil (Γof_ok (tab_cons esc_i (tab_cons tv_i (tab_cons text_i tab_nil))))))) (tab_cons esc_i (tab_cons tv_i (tab_cons text_i tab_nil))) mixed [.tmp 2,.tmp 3] Try.func58 rfl rfl (by kernel_rfl) (by kernel_rfl) (fun _=>rfl) (by kernel_rfl) ?_
 rintro l K hgd9 hK
 obtain ⟨hsm,hgd⟩:=id hgd9
 obtain ⟨hl,hall⟩:=id hsm
 unfold entry
 cases htv:tvM l with
 | false =>
   rw [pt_no htv] at hK
   repeat' (first|((first|apply qwd|apply qa1|apply qcd);(try intro K hk);focus (simp only [lvX64_58,mkT,go_sem,Nat.reduceEqDiff,↓reduceIte,reduceCtorEq,encTks_iff,htv,Bool.not_false];first|exact rfl|((repeat refine ai ?_);intros;apply hk;clear hk K)))|apply qw1|refine qwc lvX64_58 ?_|apply qt1|apply qt3|apply qw4|apply qj1)
   ((first|refine fin_ret ?_|refine fin_end ?_);simp only [go_sem,↓upd_def,Nat.reduceEqDiff,↓reduceIte])
   exact hK
 | true =>
 have htx:=pt_text htv
 have hpb:=printL_bd hsm
 repeat' (first|((first|apply qwd|apply qa1|apply qcd);(try intro K hk);focus (simp only [lvX64_58,mkT,go_sem,Nat.reduceEqDiff,↓reduceIte,reduceCtorEq,encTks_len,encTks_iff,htv,Bool.not_true];first|exact rfl|((repeat refine ai ?_);intros;apply hk;clear hk K)))|apply qw1|refine qwc lvX64_58 ?_|apply qt1|apply qw5|apply qw2|apply qj4)
 refine s_loop (ι:=Nat) (fun k=>[(4,.ref 0 0),(12,.seq (encTks l)),(13,.int .i64 l.length),(14,.int .i64 k)]) (fun k=>[(0,.gen bld [.str (printL (l.take k))])]) 1 (fun k=>k≤l.length) (fun k=>l.length - k) 0 (by omega) (Nat.zero_le _) ?_ ?_
 · simp [fits,fitsT,fitsM,upd_def,PV.nmb,MB.nmb,printL]
 intro k hk
 simp only [mkS,mkT,mkM]
 by_cases hkl:k<l.length
 · obtain ⟨⟨kd,nm,v,ps⟩,hx⟩:=get_some (xs:=l) (k:=k) hkl
   have hsk:=smTk_at hsm hx
   obtain ⟨b1,b2,b3,b4⟩:=hsk
   obtain ⟨g1,_,_⟩:=hgd _ (List.mem_of_getElem? hx)
   dsimp only at b1 b2 b3 b4 g1
   have hg:(encTks l)[k]?=some [.int .i64 kd,.str nm,.str v,.seq (encPrs ps)]:=by rw [encTks_get,hx];rfl
   have hsn:=printL_snoc hx
   have hpk:=hpb k
   rcases g1 with rfl|rfl|rfl
   · have hT:printT ⟨1,nm,v,ps⟩=escT v:=rfl
     have he:=escT_len v
     repeat' (first|((first|apply qwd|apply qa1|apply qa2|apply qcd);(try intro K hk);focus (simp only [lvX64_58,mkT,go_sem,Nat.reduceEqDiff,Nat.reduceAdd,Nat.reduceLeDiff,↓reduceIte,reduceCtorEq,hg,decide_true];first|exact rfl|((repeat refine ai ?_);intros;apply hk;clear hk K)))|apply qw1|refine qwc lvX64_58 ?_|apply qt1|apply qw5|apply qw2|apply qt4|apply qj1|(refine qj6 ?_ ?_<;>intro hc<;>(try simp only [hc])<;>(try simp only [decide_eq_true_eq,decide_eq_false_iff_not] at hc)<;>(try (exfalso;omega))))
     refine s_again (k+1) ?_ ?_ ?_<;>(first|omega|(dsimp only;omega)|skip)
     all_goals (simp [fits,fitsT,fitsM,upd_def,PV.nmb,MB.nmb,hsn,hT];done)
   · have hT:printT ⟨2,nm,v,ps⟩=[60]++nm++ps.flatMap printP++[62]:=rfl
     have htk:=printPs_take b4 b3
     repeat' (first|((first|apply qwd|apply qa1|apply qa2|apply qcd);(try intro K hk);focus (simp only [lvX64_58,mkT,go_sem,Nat.reduceEqDiff,Nat.reduceAdd,Nat.reduceLeDiff,↓reduceIte,reduceCtorEq,encPrs_len,hg,Int.reduceEq,decide_true,decide_false,List.length_cons,List.length_nil];first|exact rfl|((repeat refine ai ?_);intros;apply hk;clear hk K)))|apply qw1|refine qwc lvX64_58 ?_|apply qt1|apply qw5|apply qw2|apply qj1|apply qj4|(refine qj6 ?_ ?_<;>intro hc<;>(try simp only [hc])<;>(try simp only [decide_eq_true_eq,decide_eq_false_iff_not] at hc)<;>(try (exfalso;omega))))
     refine s_loop (ι:=Nat) (fun j=>[(4,.ref 0 0),(12,.seq (encTks l)),(13,.int .i64 l.length),(14,.int .i64 k),(33,.seq (encPrs ps)),(34,.int .i64 ps.length),(35,.int .i64 j)]) (fun j=>[(0,.gen bld [.str (printL (l.take k)++([60]++nm++(ps.take j).flatMap printP))])]) 2 (fun j=>j≤ps.length) (fun j=>ps.length - j) 0 (by omega) (Nat.zero_le _) ?_ ?_
     · simp [fits,fitsT,fitsM,upd_def,PV.nmb,MB.nmb]
     intro j hj
     simp only [mkS,mkT,mkM]
     have htj:=htk j
     by_cases hjl:j<ps.length
     · obtain ⟨⟨pn,pv⟩,hp⟩:=get_some (xs:=ps) (k:=j) hjl
       obtain ⟨c1,c2⟩:=b4 _ (List.mem_of_getElem? hp)
       have hpg:(encPrs ps)[j]?=some [.str pn,.str pv]:=by rw [encPrs_get,hp];rfl
       have hsp:=printPs_snoc hp
       have hP:printP (pn,pv)=[32]++pn++[61,34]++escT pv++[34]:=rfl
       have he:=escT_len pv
       dsimp only at c1 c2
       repeat' (first|(refine s_draw 9 ?_ ?_;focus (decide +kernel))|(first|((first|apply qwd|apply qa1|apply qa2|apply qa3|apply qcd);(try intro K hk);focus (simp only [lvX64_58,mkT,go_sem,Nat.reduceEqDiff,Nat.reduceAdd,Nat.reduceLeDiff,↓reduceIte,reduceCtorEq,hpg,List.length_append,List.length_cons,List.length_nil];first|exact rfl|((repeat refine ai ?_);intros;apply hk;clear hk K)))|apply qw8|apply qw1|refine qwc lvX64_58 ?_|apply qt1|apply qw5|apply qw2|apply qw9|apply qt4|apply qj1|(refine qj6 ?_ ?_<;>intro hc<;>(try simp only [hc])<;>(try simp only [decide_eq_true_eq,decide_eq_false_iff_not] at hc)<;>(try (exfalso;omega)))))
       refine s_again (j+1) ?_ ?_ ?_<;>(first|omega|(dsimp only;omega)|skip)
       all_goals (simp [fits,fitsT,fitsM,upd_def,PV.nmb,MB.nmb,hsp,hP];done)
     · obtain rfl:j=ps.length:=by omega
       rw [List.take_length]
       rw [List.take_length] at htj
       repeat' (first|((first|apply qwd|apply qa1|apply qcd);(try intro K hk);focus (simp only [lvX64_58,mkT,go_sem,Nat.reduceEqDiff,Nat.reduceLeDiff,↓reduceIte,List.length_append,List.length_cons,List.length_nil];first|exact rfl|((repeat refine ai ?_);intros;apply hk;clear hk K)))|apply qw1|refine qwc lvX64_58 ?_|apply qt1|apply qt2|apply qt4|apply qt5|apply qw3|apply qj4|(refine qj6 ?_ ?_<;>intro hc<;>(try simp only [hc])<;>(try simp only [decide_eq_true_eq,decide_eq_false_iff_not] at hc)<;>(try (exfalso;omega))))
       refine s_again (k+1) ?_ ?_ ?_<;>(first|omega|(dsimp only;omega)|skip)
       all_goals (simp [fits,fitsT,fitsM,upd_def,PV.nmb,MB.nmb,hsn,hT];done)
   · have hT:printT ⟨3,nm,v,ps⟩=[60,47]++nm++[62]:=rfl
     repeat' (first|((first|apply qwd|apply qa1|apply qa2|apply qcd);(try intro K hk);focus (simp only [lvX64_58,mkT,go_sem,Nat.reduceEqDiff,Nat.reduceAdd,Nat.reduceLeDiff,↓reduceIte,reduceCtorEq,hg,Int.reduceEq,decide_true,decide_false,List.length_append,List.length_cons,List.length_nil];first|exact rfl|((repeat refine ai ?_);intros;apply hk;clear hk K)))|apply qw1|refine qwc lvX64_58 ?_|apply qt1|apply qw5|apply qw2|apply qt4|apply qj1|apply qj4|(refine qj6 ?_ ?_<;>intro hc<;>(try simp only [hc])<;>(try simp only [decide_eq_true_eq,decide_eq_false_iff_not] at hc)<;>(try (exfalso;omega))))
     refine s_again (k+1) ?_ ?_ ?_<;>(first|omega|(dsimp only;omega)|skip)
     all_goals (simp [fits,fitsT,fitsM,upd_def,PV.nmb,MB.nmb,hsn,hT];done)
 · obtain rfl:k=l.length:=by omega
   have hpl:=hpb l.length
   rw [List.take_length] at *
   by_cases h6:(printL l).length≤600
   · rw [decide_eq_true h6] at htx
     rw [pt_yes htv h6] at hK
     repeat' (first|((first|apply qwd|apply qa1|apply qcd);(try intro K hk);focus (simp only [lvX64_58,mkT,go_sem,Nat.reduceEqDiff,↓reduceIte,htx,Bool.not_true];first|exact rfl|((repeat refine ai ?_);intros;apply hk;clear hk K)))|apply qw1|refine qwc lvX64_58 ?_|apply qt1|apply qw2|apply qt2|apply qt5|apply qw3|apply qw4|apply qj4|(refine qj6 ?_ ?_<;>intro hc<;>(try simp only [hc])<;>(try simp only [decide_eq_true_eq,decide_eq_false_iff_not] at hc)<;>(try (exfalso;omega))))
     ((first|refine fin_ret ?_|refine fin_end ?_);simp only [go_sem,↓upd_def,Nat.reduceEqDiff,↓reduceIte])
     exact hK
   · rw [decide_eq_false h6] at htx
     rw [pt_big' (by omega)] at hK
     repeat' (first|((first|apply qwd|apply qa1|apply qcd);(try intro K hk);focus (simp only [lvX64_58,mkT,go_sem,Nat.reduceEqDiff,↓reduceIte,htx,Bool.not_false];first|exact rfl|((repeat refine ai ?_);intros;apply hk;clear hk K)))|apply qw1|refine qwc lvX64_58 ?_|apply qt1|apply qt2|apply qt3|apply qt5|apply qw3|apply qw4|apply qj1|apply qj4|(refine qj6 ?_ ?_<;>intro hc<;>(try simp only [hc])<;>(try simp only [decide_eq_true_eq,decide_eq_false_iff_not] at hc)<;>(try (exfalso;omega))))
     ((first|refine fin_ret ?_|refine fin_end ?_);simp only [go_sem,↓upd_def,Nat.reduceEqDiff,↓reduceIte])
     exact hK
end Go.Proofs.Ytnbjogilidfkdaa
