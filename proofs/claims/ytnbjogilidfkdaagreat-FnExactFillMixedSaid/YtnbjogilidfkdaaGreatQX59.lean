/- Contracts: safe markup, the program's. -/
import Derived.Test.YtnbjogilidfkdaaGreatQX53
import Derived.Test.YtnbjogilidfkdaaGreatQXC
import Derived.Test.YtnbjogilidfkdaaGreatQK27

namespace Go.Proofs.YtnbjogilidfkdaaGreat
attribute [local irreducible] awp arun acalm FinP Fin AX.then AX.inBlock Again aG gsel amix amixN amixC aop aopc aopd cutK
attribute [local go_sem] aBSliceD aSlice aSliceC boundOf aMk aCall aCallC aLenL aLen aPick_t aPick_f aNil aAlloc aBox aBuild bldPV aBSlice bsPV aApp newsOf destOf drp aConvX aConv aConvInt aLoad cellsAt aStore cellsPV setAt aFld aField aIdx aIndex aUn aBin' aBin aMax aExtract pvOf PV.isCell nmbL PV.nmb List.map_cons List.map_nil List.all_cons List.all_nil Bool.and_true Bool.true_and if_true if_false List.getD_cons_zero List.getD_cons_succ List.getD_nil Option.isSome_some true_and and_true and_self eq_self true_or or_true List.drop_zero List.drop_succ_cons List.drop_nil List.take_zero List.take_succ_cons List.take_nil List.length_cons List.length_nil List.length_map Option.getD_some Option.getD_none List.nil_append List.cons_append List.append_nil Option.some.injEq exists_eq_left' List.getElem?_cons_zero List.getElem?_cons_succ Int.toNat_natCast Int.natCast_inj toNat_succ Nat.zero_add res res1 resC owns owns1 ownsC List.flatMap_cons List.flatMap_nil List.flatten_cons List.flatten_nil List.mem_cons List.not_mem_nil or_false false_or forall_eq forall_eq_or_imp isFro frz frz1 pureC tabA isBld List.cons.injEq PV.seq.injEq PV.int.injEq PV.str.injEq PV.bool.injEq PV.agg.injEq inR tab Γof aRes packR Option.map_some Option.map_none rel Prod.exists exists_and_left exists_eq_left and_assoc beq_self_eq_true Bool.not_true Bool.not_false decide_true decide_false List.set_cons_zero List.set_cons_succ rst_nil rst_cons
attribute [local go_sem ↓] evT upd_def aop aopc aopd
set_option maxRecDepth 100000
set_option linter.unusedVariables false
set_option linter.unusedSimpArgs false
open Go.RowKit
def lvX59_44:Nat→List Nat
 | 0=>[0]
 | 1=>[3,4]
 | 2=>[3,20]
 | 3=>[2]
 | 4=>[21,22,23]
 | 5=>[21,22,23,24]
 | 6=>[6,21,22,23]
 | 7=>[6,21,22,23,28]
 | 8=>[2]
 | 9=>[6,21,22,23,28,29]
 | 10=>[6,21,22,23,28,29]
 | 11=>[6,21,22,23,32]
 | 12=>[6,21,22,23,37]
 | 13=>[2]
 | 14=>[6,21,22,23,39,40,41]
 | 15=>[6,21,22,23,39,40,41,42]
 | 16=>[6,8,21,22,23,39,40,41]
 | 17=>[6,21,22,23,39,40,41,49]
 | 18=>[2]
 | 19=>[6,21,22,23,39,40,41]
 | 20=>[21,22,23]
 | 21=>[2]
 | _=>[]
--LV=X59
@[go_sem] def msC:PC:=rel (α:=Bs) (fun x=>[.str x]) (fun x=>x.length≤1048576) (fun x=> .bool (msM x))
set_option maxHeartbeats 16000000 in
theorem ms_i:PureOk Tryz.prog 44 msC:=by
 refine pure_rel 1 (tab_cons tok_i (tab_cons ba_i (tab_cons tgA_i (tab_cons pr_i tab_nil)))) mixed [.tmp 2] Tryz.func44 rfl rfl (by kernel_rfl) (by kernel_rfl) (fun _=>rfl) (by kernel_rfl) ?_
 rintro s K hsl hK
 unfold entry
 cases ht:tokM s with
 | none =>
   rw [ms_none ht] at hK
   repeat' (first|((first|apply qwd|apply qa1|apply qg1 rfl|apply qcd);(try intro K hk);focus (simp only [lvX59_44,mkT,go_sem,Nat.reduceEqDiff,↓reduceIte,reduceCtorEq,ht,Option.isSome_none,Option.getD_none,Bool.not_false];first|exact rfl|((repeat refine ai ?_);intros;apply hk;clear hk K)))|apply qw1|refine qwc lvX59_44 ?_|apply qt1|apply qt3|apply qw4|apply qj1|apply qj3|apply qu1)
   ((first|refine fin_ret ?_|refine fin_end ?_);simp only [go_sem,↓upd_def,↓reduceIte])
   exact hK
 | some l =>
 rw [ms_some ht] at hK
 obtain ⟨hsm,hwf⟩:=wf_tok ht
 obtain ⟨hl,hall⟩:=id hsm
 cases hbl:balF [] l with
 | false =>
   rw [hbl,Bool.false_and] at hK
   repeat' (first|((first|apply qwd|apply qa1|apply qh1|apply qg1 rfl|apply qcd);(try intro K hk);focus (simp only [lvX59_44,mkT,go_sem,Nat.reduceEqDiff,↓reduceIte,reduceCtorEq,ht,Option.isSome_some,Option.getD_some,Bool.not_true,Bool.not_false,encTks_iff,hbl];first|exact rfl|((repeat refine ai ?_);intros;apply hk;clear hk K)))|apply qw1|refine qwc lvX59_44 ?_|apply qt1|apply qt3|apply qw4|apply qj1|apply qj2|apply qu1)
   ((first|refine fin_ret ?_|refine fin_end ?_);simp only [go_sem,↓upd_def,↓reduceIte])
   exact hK
 | true =>
 rw [hbl,Bool.true_and] at hK
 repeat' (first|((first|apply qwd|apply qa1|apply qh1|apply qg1 rfl|apply qcd);(try intro K hk);focus (simp only [lvX59_44,mkT,go_sem,Nat.reduceEqDiff,↓reduceIte,reduceCtorEq,ht,Option.isSome_some,Option.getD_some,Bool.not_true,encTks_len,encTks_iff,hbl];first|exact rfl|((repeat refine ai ?_);intros;apply hk;clear hk K)))|apply qw1|refine qwc lvX59_44 ?_|apply qt1|apply qw5|apply qw2|apply qj2|apply qj4|apply qu1)
 refine s_loop (ι:=Nat) (fun k=>[(21,.seq (encTks l)),(22,.int .i64 l.length),(23,.int .i64 k)]) (fun _=>[]) 0 (fun k=>k≤l.length∧(l.take k).all okTk=true) (fun k=>l.length - k) 0 (by omega) ⟨Nat.zero_le _,rfl⟩ ?_ ?_
 · simp [fits,fitsT,fitsM,upd_def,PV.nmb]
 rintro k ⟨hk,hok⟩
 simp only [mkS,mkT,mkM]
 by_cases hkl:k<l.length
 · obtain ⟨⟨kd,nm,v,ps⟩,hx⟩:=get_some (xs:=l) (k:=k) hkl
   have hsk:=smTk_at hsm hx
   obtain ⟨b1,b2,b3,b4⟩:=hsk
   obtain ⟨hw1,hw2⟩:=hwf _ (List.mem_of_getElem? hx)
   dsimp only at b1 b2 b3 b4 hw1 hw2
   have hg:(encTks l)[k]?=some [.int .i64 kd,.str nm,.str v,.seq (encPrs ps)]:=by rw [encTks_get,hx];rfl
   have hst:=fun h=>tkStop (p:=okTk) hx h
   have hgo:=fun h=>tkTake (p:=okTk) hx hok h
   have htop:okTk ⟨kd,nm,v,ps⟩=false→K (.bool false):=fun h=>by rw [hst h] at hK;exact hK
   rcases hw1 with rfl|rfl|rfl|rfl|rfl
   · repeat' (first|((first|apply qwd|apply qa1|apply qa2|apply qcd);(try intro K hk);focus (simp only [lvX59_44,mkT,go_sem,Nat.reduceEqDiff,Nat.reduceAdd,Nat.reduceLeDiff,↓reduceIte,reduceCtorEq,hg,decide_true];first|exact rfl|((repeat refine ai ?_);intros;apply hk;clear hk K)))|apply qw1|refine qwc lvX59_44 ?_|apply qt1|apply qw5|apply qw2|apply qt4|apply qj1|(refine qj6 ?_ ?_<;>intro hc<;>(try simp only [hc])<;>(try simp only [decide_eq_true_eq,decide_eq_false_iff_not] at hc)<;>(try (exfalso;omega))))
     refine s_again (k+1) ?_ ?_ ?_<;>(first|omega|(dsimp only;omega)|skip)
     all_goals first
      | exact ⟨by omega,hgo rfl⟩
      | (simp [fits,fitsT,fitsM,upd_def,PV.nmb];done)
   · cases hn:tagN nm with
     | false =>
       repeat' (first|((first|apply qwd|apply qa1|apply qa2|apply qcd);(try intro K hk);focus (simp only [lvX59_44,mkT,go_sem,Nat.reduceEqDiff,Nat.reduceAdd,Nat.reduceLeDiff,↓reduceIte,reduceCtorEq,hg,hn,Int.reduceEq,decide_true,decide_false,Bool.not_false];first|exact rfl|((repeat refine ai ?_);intros;apply hk;clear hk K)))|apply qw1|refine qwc lvX59_44 ?_|apply qt1|apply qw5|apply qw2|apply qt3|apply qt6|apply qw4|apply qj1|apply qj4|(refine qj6 ?_ ?_<;>intro hc<;>(try simp only [hc])<;>(try simp only [decide_eq_true_eq,decide_eq_false_iff_not] at hc)<;>(try (exfalso;omega))))
       ((first|refine fin_ret ?_|refine fin_end ?_);simp only [go_sem,↓upd_def,↓reduceIte])
       exact htop (by rw [ok_2,hn];rfl)
     | true =>
       repeat' (first|((first|apply qwd|apply qa1|apply qa2|apply qcd);(try intro K hk);focus (simp only [lvX59_44,mkT,go_sem,Nat.reduceEqDiff,Nat.reduceAdd,Nat.reduceLeDiff,↓reduceIte,reduceCtorEq,encPrs_len,hg,hn,Int.reduceEq,decide_true,decide_false,Bool.not_true];first|exact rfl|((repeat refine ai ?_);intros;apply hk;clear hk K)))|apply qw1|refine qwc lvX59_44 ?_|apply qt1|apply qw5|apply qw2|apply qj1|apply qj4|(refine qj6 ?_ ?_<;>intro hc<;>(try simp only [hc])<;>(try simp only [decide_eq_true_eq,decide_eq_false_iff_not] at hc)<;>(try (exfalso;omega))))
       refine s_loop (ι:=Nat) (fun j=>[(6,.ref 0 0),(21,.seq (encTks l)),(22,.int .i64 l.length),(23,.int .i64 k),(39,.seq (encPrs ps)),(40,.int .i64 ps.length),(41,.int .i64 j)]) (fun j=>[(0,.box [.int .i64 2,.str nm,.str v,.seq (encPrs ps)])]) 1 (fun j=>j≤ps.length∧(ps.take j).all (prN nm)=true) (fun j=>ps.length - j) 0 (by omega) ⟨Nat.zero_le _,rfl⟩ ?_ ?_
       · simp [fits,fitsT,fitsM,upd_def,PV.nmb,nmbL,MB.nmb]
       rintro j ⟨hj,hpa⟩
       simp only [mkS,mkT,mkM]
       by_cases hjl:j<ps.length
       · obtain ⟨⟨pn,pv⟩,hp⟩:=get_some (xs:=ps) (k:=j) hjl
         obtain ⟨c1,c2⟩:=b4 _ (List.mem_of_getElem? hp)
         have hpg:(encPrs ps)[j]?=some [.str pn,.str pv]:=by rw [encPrs_get,hp];rfl
         have hsp:=fun h=>tkStop (p:=prN nm) hp h
         have hsg:=fun h=>tkTake (p:=prN nm) hp hpa h
         dsimp only at c1 c2
         cases hpr:prN nm (pn,pv) with
         | true =>
           have hpb:pairB nm pn pv=true:=hpr
           repeat' (first|((first|apply qwd|apply qa1|apply qa2|apply qcd);(try intro K hk);focus (simp only [lvX59_44,mkT,go_sem,Nat.reduceEqDiff,Nat.reduceAdd,Nat.reduceLeDiff,↓reduceIte,reduceCtorEq,hpg,hpb,ex_3,Bool.not_true];first|exact rfl|((repeat refine ai ?_);intros;apply hk;clear hk K)))|apply qw1|refine qwc lvX59_44 ?_|apply qt1|apply qw5|apply qw2|apply qt4|apply qj1|apply qj4|(refine qj6 ?_ ?_<;>intro hc<;>(try simp only [hc])<;>(try simp only [decide_eq_true_eq,decide_eq_false_iff_not] at hc)<;>(try (exfalso;omega))))
           refine s_again (j+1) ?_ ?_ ?_<;>(first|omega|(dsimp only;omega)|skip)
           all_goals first
            | exact ⟨by omega,hsg hpr⟩
            | (simp [fits,fitsT,fitsM,upd_def,PV.nmb,nmbL,MB.nmb];done)
         | false =>
           have hpb:pairB nm pn pv=false:=hpr
           repeat' (first|((first|apply qwd|apply qa1|apply qa2|apply qcd);(try intro K hk);focus (simp only [lvX59_44,mkT,go_sem,Nat.reduceEqDiff,Nat.reduceAdd,Nat.reduceLeDiff,↓reduceIte,reduceCtorEq,hpg,hpb,ex_3,Bool.not_false];first|exact rfl|((repeat refine ai ?_);intros;apply hk;clear hk K)))|apply qw1|refine qwc lvX59_44 ?_|apply qt1|apply qw5|apply qw2|apply qt3|apply qt6|apply qw4|apply qj1|(refine qj6 ?_ ?_<;>intro hc<;>(try simp only [hc])<;>(try simp only [decide_eq_true_eq,decide_eq_false_iff_not] at hc)<;>(try (exfalso;omega))))
           ((first|refine fin_ret ?_|refine fin_end ?_);simp only [go_sem,↓upd_def,↓reduceIte])
           exact htop (by rw [ok_2,hn,hsp hpr];rfl)
       · obtain rfl:j=ps.length:=by omega
         rw [List.take_length] at hpa
         repeat' (first|((first|apply qwd|apply qa1|apply qcd);(try intro K hk);focus (simp only [lvX59_44,mkT,go_sem,Nat.reduceEqDiff,↓reduceIte];first|exact rfl|((repeat refine ai ?_);intros;apply hk;clear hk K)))|apply qw1|refine qwc lvX59_44 ?_|apply qt1|apply qt2|apply qt4|apply qt5|apply qw3|apply qj4|(refine qj6 ?_ ?_<;>intro hc<;>(try simp only [hc])<;>(try simp only [decide_eq_true_eq,decide_eq_false_iff_not] at hc)<;>(try (exfalso;omega))))
         refine s_again (k+1) ?_ ?_ ?_<;>(first|omega|(dsimp only;omega)|skip)
         all_goals first
          | exact ⟨by omega,hgo (by rw [ok_2,hn,hpa];rfl)⟩
          | (simp [fits,fitsT,fitsM,upd_def,PV.nmb];done)
   · repeat' (first|((first|apply qwd|apply qa1|apply qa2|apply qcd);(try intro K hk);focus (simp only [lvX59_44,mkT,go_sem,Nat.reduceEqDiff,Nat.reduceAdd,Nat.reduceLeDiff,↓reduceIte,reduceCtorEq,hg,Int.reduceEq,decide_true,decide_false];first|exact rfl|((repeat refine ai ?_);intros;apply hk;clear hk K)))|apply qw1|refine qwc lvX59_44 ?_|apply qt1|apply qw5|apply qw2|apply qt4|apply qj1|apply qj4|(refine qj6 ?_ ?_<;>intro hc<;>(try simp only [hc])<;>(try simp only [decide_eq_true_eq,decide_eq_false_iff_not] at hc)<;>(try (exfalso;omega))))
     refine s_again (k+1) ?_ ?_ ?_<;>(first|omega|(dsimp only;omega)|skip)
     all_goals first
      | exact ⟨by omega,hgo rfl⟩
      | (simp [fits,fitsT,fitsM,upd_def,PV.nmb];done)
   · repeat' (first|((first|apply qwd|apply qa1|apply qa2|apply qcd);(try intro K hk);focus (simp only [lvX59_44,mkT,go_sem,Nat.reduceEqDiff,Nat.reduceAdd,Nat.reduceLeDiff,↓reduceIte,reduceCtorEq,hg,Int.reduceEq,decide_false];first|exact rfl|((repeat refine ai ?_);intros;apply hk;clear hk K)))|apply qw1|refine qwc lvX59_44 ?_|apply qt1|apply qw5|apply qw2|apply qt3|apply qt6|apply qw4|apply qj1|apply qj4|(refine qj6 ?_ ?_<;>intro hc<;>(try simp only [hc])<;>(try simp only [decide_eq_true_eq,decide_eq_false_iff_not] at hc)<;>(try (exfalso;omega))))
     ((first|refine fin_ret ?_|refine fin_end ?_);simp only [go_sem,↓upd_def,↓reduceIte])
     exact htop rfl
   · repeat' (first|((first|apply qwd|apply qa1|apply qa2|apply qcd);(try intro K hk);focus (simp only [lvX59_44,mkT,go_sem,Nat.reduceEqDiff,Nat.reduceAdd,Nat.reduceLeDiff,↓reduceIte,reduceCtorEq,hg,Int.reduceEq,decide_false];first|exact rfl|((repeat refine ai ?_);intros;apply hk;clear hk K)))|apply qw1|refine qwc lvX59_44 ?_|apply qt1|apply qw5|apply qw2|apply qt3|apply qt6|apply qw4|apply qj1|apply qj4|(refine qj6 ?_ ?_<;>intro hc<;>(try simp only [hc])<;>(try simp only [decide_eq_true_eq,decide_eq_false_iff_not] at hc)<;>(try (exfalso;omega))))
     ((first|refine fin_ret ?_|refine fin_end ?_);simp only [go_sem,↓upd_def,↓reduceIte])
     exact htop rfl
 · obtain rfl:k=l.length:=by omega
   rw [List.take_length] at hok
   rw [hok] at hK
   repeat' (first|((first|apply qwd|apply qa1|apply qcd);(try intro K hk);focus (simp only [lvX59_44,mkT,go_sem,Nat.reduceEqDiff,↓reduceIte];first|exact rfl|((repeat refine ai ?_);intros;apply hk;clear hk K)))|apply qw1|refine qwc lvX59_44 ?_|apply qt1|apply qt2|apply qt5|apply qw3|apply qw4|apply qj4|(refine qj6 ?_ ?_<;>intro hc<;>(try simp only [hc])<;>(try simp only [decide_eq_true_eq,decide_eq_false_iff_not] at hc)<;>(try (exfalso;omega))))
   ((first|refine fin_ret ?_|refine fin_end ?_);simp only [go_sem,↓upd_def,↓reduceIte])
   exact hK
end Go.Proofs.YtnbjogilidfkdaaGreat
