/- Contracts: cleaned tokens: what is kept, what is joined. -/
import Derived.Test.YtnbjogilidfkdaaER14
import Derived.Test.YtnbjogilidfkdaaEXC

namespace Go.Proofs.Ytnbjogilidfkdaa
attribute [local irreducible] awp arun acalm FinP Fin AX.then AX.inBlock Again aG gsel amix amixN amixC aop aopc aopd cutK
attribute [local go_sem] aBSliceD aSlice aSliceC boundOf aMk aCall aCallC aLenL aLen aPick_t aPick_f aNil aAlloc aBox aBuild bldPV aBSlice bsPV aApp newsOf destOf drp aConvX aConv aConvInt aLoad cellsAt aStore cellsPV setAt aFld aField aIdx aIndex aUn aBin' aBin aMax aExtract pvOf PV.isCell nmbL PV.nmb List.map_cons List.map_nil List.all_cons List.all_nil Bool.and_true Bool.true_and if_true if_false List.getD_cons_zero List.getD_cons_succ List.getD_nil Option.isSome_some true_and and_true and_self eq_self true_or or_true List.drop_zero List.drop_succ_cons List.drop_nil List.take_zero List.take_succ_cons List.take_nil List.length_cons List.length_nil List.length_map Option.getD_some Option.getD_none List.nil_append List.cons_append List.append_nil Option.some.injEq exists_eq_left' List.getElem?_cons_zero List.getElem?_cons_succ Int.toNat_natCast Int.natCast_inj toNat_succ Nat.zero_add res res1 resC owns owns1 ownsC List.flatMap_cons List.flatMap_nil List.flatten_cons List.flatten_nil List.mem_cons List.not_mem_nil or_false false_or forall_eq forall_eq_or_imp isFro frz frz1 pureC tabA isBld List.cons.injEq PV.seq.injEq PV.int.injEq PV.str.injEq PV.bool.injEq PV.agg.injEq inR tab Γof aRes packR Option.map_some Option.map_none rel Prod.exists exists_and_left exists_eq_left and_assoc beq_self_eq_true Bool.not_true Bool.not_false decide_true decide_false List.set_cons_zero List.set_cons_succ rst_nil rst_cons
attribute [local go_sem ↓] evT upd_def aop aopc aopd
set_option maxRecDepth 100000
set_option linter.unusedVariables false
set_option linter.unusedSimpArgs false
open Go.RowKit
def lvX55_48:Nat→List Nat
 | 0=>[0]
 | 1=>[0,3]
 | 2=>[0,3,4]
 | 3=>[0,3,4,10]
 | 4=>[0,3,4]
 | 5=>[0,3,4,5]
 | 6=>[0,3,4,5,33]
 | 7=>[0,3,4]
 | 8=>[0,3,4]
 | 9=>[2]
 | _=>[]
--LV=X55
/-- Tokens that a text is divided into, small ones. -/
def wfTks (l:List TokD):Prop:=smTks l∧ ∀ t ∈ l,wfT t
@[go_sem] def jnC:PC:=rel (α:=List TokD) (fun x=>[.seq (encTks x)]) (fun x=>x.length≤2000∧ ∀ t ∈ x,t.value.length≤72000) (fun x=> .seq (encTks (joinM x)))
theorem encTks_setl (l:List TokD) (u t:TokD):(encTks (l++[u])).set l.length (encTk t)=encTks (l++[t]):=by
 rw [encTks_app,encTks_app,List.set_append_right _ _ (by rw [encTks_len];exact Nat.le_refl _),encTks_len,Nat.sub_self]
 rfl
theorem encTks_getl (l:List TokD) (u:TokD):(encTks (l++[u]))[l.length]?=some (encTk u):=by
 simp [encTks]
theorem joinM_snoc {l:List TokD} {k:Nat} {t:TokD} (h:l[k]?=some t):(l.take (k+1)).foldl addT []=addT ((l.take k).foldl addT []) t:=by
 rw [take_snoc' h,List.foldl_append]
 rfl
set_option maxHeartbeats 8000000 in
theorem jn_s:PureOk Try.prog 48 jnC:=by
 refine pure_rel 1 tab_nil mixed [.tmp 2] Try.func48 rfl rfl (by kernel_rfl) (by kernel_rfl) (fun _=>rfl) (by kernel_rfl) ?_
 rintro l K ⟨hl,hall⟩ hK
 unfold entry
 repeat' (first|((first|apply qwd|apply qa1);(try intro K hk);focus (simp only [lvX55_48,mkT,go_sem,Nat.reduceEqDiff,↓reduceIte,reduceCtorEq];first|exact rfl|((repeat refine ai ?_);intros;apply hk;clear hk K)))|apply qw1|refine qwc lvX55_48 ?_|apply qt1|apply qw5)
 refine s_loop (ι:=Nat) (fun k=>[(0,.seq (encTks l)),(3,.own 0),(4,.int .i64 k)]) (fun k=>[(0,.row 29 4 (encTks ((l.take k).foldl addT [])))]) 1 (fun k=>k≤l.length∧((l.take k).foldl addT []).length≤k∧ ∀ t ∈ (l.take k).foldl addT [],t.value.length≤k * 72000) (fun k=>l.length - k) 0 (by omega) ⟨Nat.zero_le _,Nat.zero_le _,fun t h=>by cases h⟩ ?_ ?_
 · simp [fits,fitsT,fitsM,upd_def,PV.nmb,MB.nmb,encTks_nil]
 rintro k ⟨hk,hol,hov⟩
 simp only [mkS,mkT,mkM]
 by_cases hkl:k<l.length
 · obtain ⟨⟨kd,nm,v,ps⟩,hx⟩:=get_some (xs:=l) (k:=k) hkl
   have hv:v.length≤72000:=hall _ (List.mem_of_getElem? hx)
   have hg:(encTks l)[k]?=some [.int .i64 kd,.str nm,.str v,.seq (encPrs ps)]:=by rw [encTks_get,hx];rfl
   have hj:=joinM_snoc hx
   generalize ho:(l.take k).foldl addT []=o at *
   rcases List.eq_nil_or_concat o with rfl|⟨o',u,rfl⟩
   · have hz1:decide (((0:Nat):Int) - 1 ≥ 0)=false:=by simp
     rw [addT_nil] at hj
     repeat' (first|((first|apply qwd|apply qa1|apply qh1|apply qg1 rfl|apply qcd);(try intro K hk);focus (simp only [lvX55_48,mkT,go_sem,Nat.reduceEqDiff,Nat.reduceAdd,Nat.reduceLeDiff,↓reduceIte,reduceCtorEq,encTks_len,encTks_pt,hg,hz1,List.length_nil];first|exact rfl|((repeat refine ai ?_);intros;apply hk;clear hk K)))|apply qw1|refine qwc lvX55_48 ?_|apply qt1|apply qw5|apply qw2|apply qt4|apply qj1|apply qj4|apply qu1|(refine qj6 ?_ ?_<;>intro hc<;>(try simp only [hc])<;>(try simp only [decide_eq_true_eq,decide_eq_false_iff_not] at hc)<;>(try (exfalso;omega))))
     all_goals
      refine s_againR (k+1) (fun i=>if i=0 then 2 else i) ?_ ?_ ?_ ?_ ?_ ?_<;>(first|omega|(dsimp only;omega)|(intro i hi;(try dsimp only);(repeat' split)<;>omega)|(intro i j hi hj h;(try dsimp only at h);(repeat' split at h)<;>omega)|skip)
      all_goals first
       | (refine ⟨by omega,?_,?_⟩<;>(try rw [hj])<;>first|(simp;done)|(simp;omega))
       | (simp [fitsTR,fitsMR,PV.ren,MB.ren,upd_def,PV.nmb,MB.nmb,hj];done)
   · rw [List.concat_eq_append] at *
     rw [addT_snoc] at hj
     obtain ⟨ku,nu,vu,pu⟩:=u
     dsimp only at hj
     have hul:(o'++[(⟨ku,nu,vu,pu⟩:TokD)]).length=o'.length+1:=by simp
     rw [hul] at hol
     have hvu:vu.length≤k * 72000:=hov ⟨ku,nu,vu,pu⟩ (by simp)
     have hv1:v.length≤(k+1) * 72000:=Nat.le_trans hv (Nat.le_mul_of_pos_left _ (Nat.succ_pos k))
     have hvu1:vu.length≤(k+1) * 72000:=Nat.le_trans hvu (Nat.mul_le_mul_right _ (Nat.le_succ k))
     have hvv1:(vu++v).length≤(k+1) * 72000:=by rw [List.length_append,Nat.add_mul,Nat.one_mul];exact Nat.add_le_add hvu hv
     have hgu:=encTks_getl o' ⟨ku,nu,vu,pu⟩
     rw [encTk_mk] at hgu
     have hl1:((o'.length+1:Nat):Int) - 1=(o'.length:Int):=by omega
     have hge:decide ((o'.length:Int) ≥ 0)=true:=decide_eq_true (by omega)
     by_cases hb:kd=1∧ku=1
     · rw [if_pos hb] at hj
       obtain ⟨rfl,rfl⟩:=hb
       have hset:=encTks_setl o' ⟨1,nu,vu,pu⟩ ⟨1,nu,vu++v,pu⟩
       rw [encTk_mk] at hset
       repeat' (first|(refine qw10 [] [0,1,2,3,5,7,8,9,10,11,12,14] [0,1,2,3,7,8,9,10,11,4,5,6,12,13,14,15] ?_ ?_;focus (decide +kernel))|(first|((first|apply qwd|apply qa1|apply qh1|apply qm1|apply qm2|apply qm3|apply qg1 rfl|apply qcd);(try intro K hk);focus (simp only [lvX55_48,mkT,go_sem,Nat.reduceEqDiff,Nat.reduceAdd,Nat.reduceLeDiff,↓reduceIte,reduceCtorEq,encTks_len,hg,hul,hl1,hge,hgu,hset,Int.toNat_natCast,decide_true];first|exact rfl|((repeat refine ai ?_);intros;apply hk;clear hk K)))|apply qw1|refine qwc lvX55_48 ?_|apply qt1|apply qw5|apply qw2|apply qt2|apply qt5|apply qw3|apply qj1|apply qu1|apply qne|(refine qj6 ?_ ?_<;>intro hc<;>(try simp only [hc])<;>(try simp only [decide_eq_true_eq,decide_eq_false_iff_not] at hc)<;>(try (exfalso;omega)))|(refine qk1 ?_ ?_;focus (repeat (first|exact qsub0|(refine qsub1 ?_ ?_;focus (simp only [go_sem,Nat.reduceEqDiff,Nat.reduceAdd,Nat.reduceLeDiff,Nat.reduceLT,Nat.reduceSub,Int.reduceToNat,↓reduceIte,reduceCtorEq,encTks_len,encTks_all,encTks_pt,hg,hul,hl1,hge,hgu,hset,Int.toNat_natCast,decide_true,Bool.not_true])))))))
       refine s_again (k+1) ?_ ?_ ?_<;>(first|omega|(dsimp only;omega)|skip)
       all_goals first
        | (refine ⟨by omega,by rw [hj];simp only [List.length_append,List.length_cons,List.length_nil];omega,?_⟩
           rw [hj]
           intro t ht
           rcases List.mem_append.1 ht with ht|ht
           · exact Nat.le_trans (hov t (List.mem_append_left _ ht)) (Nat.mul_le_mul_right _ (Nat.le_succ k))
           · obtain rfl:=List.mem_singleton.1 ht
             exact hvv1)
        | (simp [fits,fitsT,fitsM,upd_def,PV.nmb,MB.nmb,hj];done)
     · rw [if_neg hb] at hj
       repeat' (first|((first|apply qwd|apply qa1|apply qh1|apply qg1 rfl|apply qcd);(try intro K hk);focus (simp only [lvX55_48,mkT,go_sem,Nat.reduceEqDiff,Nat.reduceAdd,Nat.reduceLeDiff,↓reduceIte,reduceCtorEq,encTks_len,encTks_pt,hg,hul,hl1,hge,hgu,Int.toNat_natCast];first|exact rfl|((repeat refine ai ?_);intros;apply hk;clear hk K)))|apply qw1|refine qwc lvX55_48 ?_|apply qt1|apply qw5|apply qw2|apply qt4|apply qj1|apply qj4|apply qu1|(refine qj6 ?_ ?_<;>intro hc<;>(try simp only [hc])<;>(try simp only [decide_eq_true_eq,decide_eq_false_iff_not] at hc)<;>(try (exfalso;omega))))
       all_goals
        refine s_againR (k+1) (fun i=>if i=0 then 2 else i) ?_ ?_ ?_ ?_ ?_ ?_<;>(first|omega|(dsimp only;omega)|(intro i hi;(try dsimp only);(repeat' split)<;>omega)|(intro i j hi hj h;(try dsimp only at h);(repeat' split at h)<;>omega)|skip)
        all_goals first
         | (refine ⟨by omega,by rw [hj];simp only [List.length_append,List.length_cons,List.length_nil];omega,?_⟩
            rw [hj]
            intro t ht
            rcases List.mem_append.1 ht with ht|ht
            · exact Nat.le_trans (hov t (List.mem_append_left _ ht)) (Nat.mul_le_mul_right _ (Nat.le_succ k))
            · rcases List.mem_cons.1 ht with rfl|ht
              · exact hvu1
              · obtain rfl:=List.mem_singleton.1 ht
                exact hv1)
         | (simp [fitsTR,fitsMR,PV.ren,MB.ren,upd_def,PV.nmb,MB.nmb,hj];done)
 · obtain rfl:k=l.length:=by omega
   repeat' (first|((first|apply qwd|apply qa1|apply qcd);(try intro K hk);focus (simp only [lvX55_48,mkT,go_sem,Nat.reduceEqDiff,↓reduceIte,reduceCtorEq,encTks_len];first|exact rfl|((repeat refine ai ?_);intros;apply hk;clear hk K)))|apply qw1|refine qwc lvX55_48 ?_|apply qt1|apply qt2|apply qt5|apply qw3|apply qw4|apply qj4|(refine qj6 ?_ ?_<;>intro hc<;>(try simp only [hc])<;>(try simp only [decide_eq_true_eq,decide_eq_false_iff_not] at hc)<;>(try (exfalso;omega))))
   ((first|refine fin_ret ?_|refine fin_end ?_);simp only [go_sem,↓upd_def,↓reduceIte])
   rw [List.take_length]
   exact hK
end Go.Proofs.Ytnbjogilidfkdaa

/- Contracts: cleaned tokens, the reference's. -/
namespace Go.Proofs.Ytnbjogilidfkdaa
attribute [local irreducible] awp arun acalm FinP Fin AX.then AX.inBlock Again aG gsel amix amixN amixC aop aopc aopd cutK
attribute [local go_sem] aBSliceD aSlice aSliceC boundOf aMk aCall aCallC aLenL aLen aPick_t aPick_f aNil aAlloc aBox aBuild bldPV aBSlice bsPV aApp newsOf destOf drp aConvX aConv aConvInt aLoad cellsAt aStore cellsPV setAt aFld aField aIdx aIndex aUn aBin' aBin aMax aExtract pvOf PV.isCell nmbL PV.nmb List.map_cons List.map_nil List.all_cons List.all_nil Bool.and_true Bool.true_and if_true if_false List.getD_cons_zero List.getD_cons_succ List.getD_nil Option.isSome_some true_and and_true and_self eq_self true_or or_true List.drop_zero List.drop_succ_cons List.drop_nil List.take_zero List.take_succ_cons List.take_nil List.length_cons List.length_nil List.length_map Option.getD_some Option.getD_none List.nil_append List.cons_append List.append_nil Option.some.injEq exists_eq_left' List.getElem?_cons_zero List.getElem?_cons_succ Int.toNat_natCast Int.natCast_inj toNat_succ Nat.zero_add res res1 resC owns owns1 ownsC List.flatMap_cons List.flatMap_nil List.flatten_cons List.flatten_nil List.mem_cons List.not_mem_nil or_false false_or forall_eq forall_eq_or_imp isFro frz frz1 pureC tabA isBld List.cons.injEq PV.seq.injEq PV.int.injEq PV.str.injEq PV.bool.injEq PV.agg.injEq inR tab Γof aRes packR Option.map_some Option.map_none rel Prod.exists exists_and_left exists_eq_left and_assoc beq_self_eq_true Bool.not_true Bool.not_false decide_true decide_false List.set_cons_zero List.set_cons_succ rst_nil rst_cons
attribute [local go_sem ↓] evT upd_def aop aopc aopd
set_option maxRecDepth 100000
set_option linter.unusedVariables false
set_option linter.unusedSimpArgs false
open Go.RowKit
def lvX56_15:Nat→List Nat
 | 0=>[0]
 | 1=>[0]
 | 2=>[0,3]
 | 3=>[0,3,4]
 | 4=>[0,3,4,14]
 | 5=>[0,3,4]
 | 6=>[0,3,4,5]
 | 7=>[0,3,4,5,39]
 | 8=>[0,3,4,5,6]
 | 9=>[0,3,4,5,6,7]
 | 10=>[0,3,4,5,6,7,45]
 | 11=>[0,3,4,5,6,7]
 | 12=>[0,3,4,5,6,7,55]
 | 13=>[0,3,4,5,6,7]
 | 14=>[0,3,4,5]
 | 15=>[0,3,4]
 | 16=>[2]
 | _=>[]
--LV=X56
theorem keepMk_snoc {l:List TokD} {k:Nat} {t:TokD} (h:l[k]?=some t):keepMk (l.take (k+1))=keepMk (l.take k)++(if dropN t=true then [] else [keepT t]):=by
 rw [take_snoc' h]
 unfold keepMk
 rw [List.filter_append,List.map_append]
 cases hd:dropN t<;>simp [hd]
theorem keepMk_len (l:List TokD):(keepMk l).length≤l.length:=by
 unfold keepMk
 rw [List.length_map]
 exact List.length_filter_le _ _
theorem sm_keep {l:List TokD} (h:smTks l):smTks (keepMk l):=by
 obtain ⟨h1,h2⟩:=h
 obtain ⟨h3,h4⟩:=keep_bd (N:=72000) h2
 exact ⟨by omega,h4⟩
theorem jn_keep {l:List TokD} (h:smTks l):(closeF [] l).length≤2000∧ ∀ t ∈ closeF [] l,t.value.length≤72000:=by
 obtain ⟨h1,h2⟩:=h
 obtain ⟨h3,h4⟩:=close_bd (N:=72000) l [] h2 (fun n hn=>by cases hn)
 simp only [List.length_nil] at h3
 exact ⟨by omega,fun t ht=>(h4 t ht).2.1⟩
theorem filt_snoc {α:Type} {p:α→Bool} {l:List α} {k:Nat} {x:α} (h:l[k]?=some x):(l.take (k+1)).filter p=(l.take k).filter p++(if p x=true then [x] else []):=by
 rw [take_snoc' h,List.filter_append]
 cases hp:p x<;>simp [hp]
@[go_sem] def cnC:PC:=rel (α:=List TokD) (fun x=>[.seq (encTks x)]) wfTks (fun x=> .seq (encTks (cleanMk x)))
theorem cleanMk_eq (l:List TokD):cleanMk l=joinM (closeF [] (keepMk l)):=rfl
set_option maxHeartbeats 8000000 in
theorem cn_s:PureOk Try.prog 15 cnC:=by
 refine pure_rel 1 (tab_cons owl_s (tab_cons tgA_s (tab_cons pr_s (tab_cons cl_s (tab_cons jn_s tab_nil))))) mixed [.tmp 2] Try.func15 rfl rfl (by kernel_rfl) (by kernel_rfl) (fun _=>rfl) (by kernel_rfl) ?_
 rintro l K ⟨hsm,hwf⟩ hK
 obtain ⟨hl,hall⟩:=id hsm
 have hall2: ∀ t ∈ l,t.pairs.length≤1048576:=fun t ht=>by have:=(hall t ht).2.2.1;omega
 unfold entry
 repeat' (first|((first|apply qwd|apply qa1);(try intro K hk);focus (simp only [lvX56_15,mkT,go_sem,Nat.reduceEqDiff,↓reduceIte,reduceCtorEq,encTks_iff];first|exact rfl|((repeat refine ai ?_);intros;apply hk;clear hk K)))|apply qw1|refine qwc lvX56_15 ?_|apply qt1|apply qw5)
 refine s_loop (ι:=Nat) (fun k=>[(0,.seq (encTks l)),(3,.own 0),(4,.int .i64 k)]) (fun k=>[(0,.row 29 4 (encTks (keepMk (l.take k))))]) 1 (fun k=>k≤l.length) (fun k=>l.length - k) 0 (by omega) (Nat.zero_le _) ?_ ?_
 · simp [fits,fitsT,fitsM,upd_def,PV.nmb,MB.nmb,keepMk,encTks_nil]
 intro k hk
 simp only [mkS,mkT,mkM]
 by_cases hkl:k<l.length
 · obtain ⟨⟨kd,nm,v,ps⟩,hx⟩:=get_some (xs:=l) (k:=k) hkl
   have hsk:=smTk_at hsm hx
   obtain ⟨b1,b2,b3,b4⟩:=hsk
   have hwx:=hwf _ (List.mem_of_getElem? hx)
   obtain ⟨hw1,hw2⟩:=hwx
   dsimp only at b1 b2 b3 b4 hw1 hw2
   have hg:(encTks l)[k]?=some [.int .i64 kd,.str nm,.str v,.seq (encPrs ps)]:=by rw [encTks_get,hx];rfl
   have hkm:=keepMk_snoc hx
   have hkl2:=keepMk_len (l.take k)
   rw [List.length_take] at hkl2
   rcases hw1 with rfl|rfl|rfl|rfl|rfl
   · rw [if_neg (by simp [dropN])] at hkm
     repeat' (first|((first|apply qwd|apply qa1|apply qa2|apply qh1|apply qg1 rfl|apply qcd);(try intro K hk);focus (simp only [lvX56_15,mkT,go_sem,Nat.reduceEqDiff,Nat.reduceAdd,Nat.reduceLeDiff,↓reduceIte,reduceCtorEq,encTks_len,hg,Int.reduceEq,decide_true,decide_false,Bool.not_true];first|exact rfl|((repeat refine ai ?_);intros;apply hk;clear hk K)))|apply qw1|refine qwc lvX56_15 ?_|apply qt1|apply qw5|apply qw2|apply qj1|apply qj2|apply qj4|apply qu1|(refine qj6 ?_ ?_<;>intro hc<;>(try simp only [hc])<;>(try simp only [decide_eq_true_eq,decide_eq_false_iff_not] at hc)<;>(try (exfalso;omega))))
     refine s_loop (ι:=Nat) (fun j=>[(0,.seq (encTks l)),(3,.own 0),(4,.int .i64 k),(5,.ref 1 0),(6,.own 2),(7,.int .i64 j)]) (fun j=>[(0,.row 29 4 (encTks (keepMk (l.take k)))),(1,.box [.int .i64 1,.str nm,.str v,.seq (encPrs ps)]),(2,.row 33 2 (encPrs ((ps.take j).filter (prN nm))))]) 3 (fun j=>j≤ps.length) (fun j=>ps.length - j) 0 (by omega) (Nat.zero_le _) ?_ ?_
     · simp [fits,fitsT,fitsM,upd_def,PV.nmb,nmbL,MB.nmb,encPrs_nil]
     intro j hj
     simp only [mkS,mkT,mkM]
     by_cases hjl:j<ps.length
     · obtain ⟨⟨pn,pv⟩,hp⟩:=get_some (xs:=ps) (k:=j) hjl
       obtain ⟨c1,c2⟩:=b4 _ (List.mem_of_getElem? hp)
       have hpg:(encPrs ps)[j]?=some [.str pn,.str pv]:=by rw [encPrs_get,hp];rfl
       have hf:=filt_snoc (p:=prN nm) hp
       have hfl:((ps.take j).filter (prN nm)).length≤j:=Nat.le_trans (List.length_filter_le _ _) (by rw [List.length_take];omega)
       dsimp only at c1 c2
       cases hpr:prN nm (pn,pv) with
       | true =>
         have hpb:pairB nm pn pv=true:=hpr
         rw [if_pos hpr] at hf
         repeat' (first|(refine s_draw 8 ?_ ?_;focus (decide +kernel))|(first|((first|apply qwd|apply qa1|apply qa3|apply qcd);(try intro K hk);focus (simp only [lvX56_15,mkT,go_sem,Nat.reduceEqDiff,Nat.reduceAdd,Nat.reduceLeDiff,↓reduceIte,reduceCtorEq,encPrs_len,encPrs_pt,hpg,hpb,ex_2];first|exact rfl|((repeat refine ai ?_);intros;apply hk;clear hk K)))|apply qw8|apply qw1|refine qwc lvX56_15 ?_|apply qt1|apply qw5|apply qw2|apply qw9|apply qt4|apply qj1|(refine qj6 ?_ ?_<;>intro hc<;>(try simp only [hc])<;>(try simp only [decide_eq_true_eq,decide_eq_false_iff_not] at hc)<;>(try (exfalso;omega)))))
         refine s_againR (j+1) (fun i=>if i=2 then 4 else i) ?_ ?_ ?_ ?_ ?_ ?_<;>(first|omega|(dsimp only;omega)|(intro i hi;(try dsimp only);(repeat' split)<;>omega)|(intro i j hi hj h;(try dsimp only at h);(repeat' split at h)<;>omega)|skip)
         all_goals (simp [fitsTR,fitsMR,PV.ren,renL,MB.ren,upd_def,PV.nmb,nmbL,MB.nmb,hf];done)
       | false =>
         have hpb:pairB nm pn pv=false:=hpr
         rw [if_neg (by rw [hpr];decide),List.append_nil] at hf
         repeat' (first|(refine s_draw 8 ?_ ?_;focus (decide +kernel))|(first|((first|apply qwd|apply qa1|apply qa3|apply qcd);(try intro K hk);focus (simp only [lvX56_15,mkT,go_sem,Nat.reduceEqDiff,Nat.reduceAdd,Nat.reduceLeDiff,↓reduceIte,reduceCtorEq,encPrs_len,hpg,hpb,ex_2];first|exact rfl|((repeat refine ai ?_);intros;apply hk;clear hk K)))|apply qw8|apply qw1|refine qwc lvX56_15 ?_|apply qt1|apply qw5|apply qw2|apply qw9|apply qt4|apply qj1|apply qj4|(refine qj6 ?_ ?_<;>intro hc<;>(try simp only [hc])<;>(try simp only [decide_eq_true_eq,decide_eq_false_iff_not] at hc)<;>(try (exfalso;omega)))))
         refine s_again (j+1) ?_ ?_ ?_<;>(first|omega|(dsimp only;omega)|skip)
         all_goals (simp [fits,fitsT,fitsM,upd_def,PV.nmb,nmbL,MB.nmb,hf];done)
     · obtain rfl:j=ps.length:=by omega
       rw [List.take_length]
       repeat' (first|((first|apply qwd|apply qa1|apply qa2|apply qcd);(try intro K hk);focus (simp only [lvX56_15,mkT,go_sem,Nat.reduceEqDiff,Nat.reduceAdd,Nat.reduceLeDiff,↓reduceIte,reduceCtorEq,encPrs_len,encTks_len,encTks_pt];first|exact rfl|((repeat refine ai ?_);intros;apply hk;clear hk K)))|apply qw1|refine qwc lvX56_15 ?_|apply qt1|apply qt2|apply qt4|apply qt5|apply qw3|apply qj4|(refine qj6 ?_ ?_<;>intro hc<;>(try simp only [hc])<;>(try simp only [decide_eq_true_eq,decide_eq_false_iff_not] at hc)<;>(try (exfalso;omega))))
       refine s_againR (k+1) (fun i=>if i=0 then 4 else i) ?_ ?_ ?_ ?_ ?_ ?_<;>(first|omega|(dsimp only;omega)|(intro i hi;(try dsimp only);(repeat' split)<;>omega)|(intro i j hi hj h;(try dsimp only at h);(repeat' split at h)<;>omega)|skip)
       all_goals (simp [fitsTR,fitsMR,PV.ren,MB.ren,upd_def,PV.nmb,MB.nmb,hkm,keepT];done)
   · cases ht:tagN nm with
     | true =>
       rw [if_neg (by simp [dropN,ht])] at hkm
       repeat' (first|((first|apply qwd|apply qa1|apply qa2|apply qh1|apply qg1 rfl|apply qcd);(try intro K hk);focus (simp only [lvX56_15,mkT,go_sem,Nat.reduceEqDiff,Nat.reduceAdd,Nat.reduceLeDiff,↓reduceIte,reduceCtorEq,encTks_len,hg,ht,Int.reduceEq,decide_false,Bool.not_true,Bool.not_false];first|exact rfl|((repeat refine ai ?_);intros;apply hk;clear hk K)))|apply qw1|refine qwc lvX56_15 ?_|apply qt1|apply qw5|apply qw2|apply qj1|apply qj2|apply qj4|apply qu1|(refine qj6 ?_ ?_<;>intro hc<;>(try simp only [hc])<;>(try simp only [decide_eq_true_eq,decide_eq_false_iff_not] at hc)<;>(try (exfalso;omega))))
       refine s_loop (ι:=Nat) (fun j=>[(0,.seq (encTks l)),(3,.own 0),(4,.int .i64 k),(5,.ref 1 0),(6,.own 2),(7,.int .i64 j)]) (fun j=>[(0,.row 29 4 (encTks (keepMk (l.take k)))),(1,.box [.int .i64 2,.str nm,.str v,.seq (encPrs ps)]),(2,.row 33 2 (encPrs ((ps.take j).filter (prN nm))))]) 3 (fun j=>j≤ps.length) (fun j=>ps.length - j) 0 (by omega) (Nat.zero_le _) ?_ ?_
       · simp [fits,fitsT,fitsM,upd_def,PV.nmb,nmbL,MB.nmb,encPrs_nil]
       intro j hj
       simp only [mkS,mkT,mkM]
       by_cases hjl:j<ps.length
       · obtain ⟨⟨pn,pv⟩,hp⟩:=get_some (xs:=ps) (k:=j) hjl
         obtain ⟨c1,c2⟩:=b4 _ (List.mem_of_getElem? hp)
         have hpg:(encPrs ps)[j]?=some [.str pn,.str pv]:=by rw [encPrs_get,hp];rfl
         have hf:=filt_snoc (p:=prN nm) hp
         have hfl:((ps.take j).filter (prN nm)).length≤j:=Nat.le_trans (List.length_filter_le _ _) (by rw [List.length_take];omega)
         dsimp only at c1 c2
         cases hpr:prN nm (pn,pv) with
         | true =>
           have hpb:pairB nm pn pv=true:=hpr
           rw [if_pos hpr] at hf
           repeat' (first|(refine s_draw 8 ?_ ?_;focus (decide +kernel))|(first|((first|apply qwd|apply qa1|apply qa3|apply qcd);(try intro K hk);focus (simp only [lvX56_15,mkT,go_sem,Nat.reduceEqDiff,Nat.reduceAdd,Nat.reduceLeDiff,↓reduceIte,reduceCtorEq,encPrs_len,encPrs_pt,hpg,hpb,ex_2];first|exact rfl|((repeat refine ai ?_);intros;apply hk;clear hk K)))|apply qw8|apply qw1|refine qwc lvX56_15 ?_|apply qt1|apply qw5|apply qw2|apply qw9|apply qt4|apply qj1|(refine qj6 ?_ ?_<;>intro hc<;>(try simp only [hc])<;>(try simp only [decide_eq_true_eq,decide_eq_false_iff_not] at hc)<;>(try (exfalso;omega)))))
           refine s_againR (j+1) (fun i=>if i=2 then 4 else i) ?_ ?_ ?_ ?_ ?_ ?_<;>(first|omega|(dsimp only;omega)|(intro i hi;(try dsimp only);(repeat' split)<;>omega)|(intro i j hi hj h;(try dsimp only at h);(repeat' split at h)<;>omega)|skip)
           all_goals (simp [fitsTR,fitsMR,PV.ren,renL,MB.ren,upd_def,PV.nmb,nmbL,MB.nmb,hf];done)
         | false =>
           have hpb:pairB nm pn pv=false:=hpr
           rw [if_neg (by rw [hpr];decide),List.append_nil] at hf
           repeat' (first|(refine s_draw 8 ?_ ?_;focus (decide +kernel))|(first|((first|apply qwd|apply qa1|apply qa3|apply qcd);(try intro K hk);focus (simp only [lvX56_15,mkT,go_sem,Nat.reduceEqDiff,Nat.reduceAdd,Nat.reduceLeDiff,↓reduceIte,reduceCtorEq,encPrs_len,hpg,hpb,ex_2];first|exact rfl|((repeat refine ai ?_);intros;apply hk;clear hk K)))|apply qw8|apply qw1|refine qwc lvX56_15 ?_|apply qt1|apply qw5|apply qw2|apply qw9|apply qt4|apply qj1|apply qj4|(refine qj6 ?_ ?_<;>intro hc<;>(try simp only [hc])<;>(try simp only [decide_eq_true_eq,decide_eq_false_iff_not] at hc)<;>(try (exfalso;omega)))))
           refine s_again (j+1) ?_ ?_ ?_<;>(first|omega|(dsimp only;omega)|skip)
           all_goals (simp [fits,fitsT,fitsM,upd_def,PV.nmb,nmbL,MB.nmb,hf];done)
       · obtain rfl:j=ps.length:=by omega
         rw [List.take_length]
         repeat' (first|((first|apply qwd|apply qa1|apply qa2|apply qcd);(try intro K hk);focus (simp only [lvX56_15,mkT,go_sem,Nat.reduceEqDiff,Nat.reduceAdd,Nat.reduceLeDiff,↓reduceIte,reduceCtorEq,encPrs_len,encTks_len,encTks_pt];first|exact rfl|((repeat refine ai ?_);intros;apply hk;clear hk K)))|apply qw1|refine qwc lvX56_15 ?_|apply qt1|apply qt2|apply qt4|apply qt5|apply qw3|apply qj4|(refine qj6 ?_ ?_<;>intro hc<;>(try simp only [hc])<;>(try simp only [decide_eq_true_eq,decide_eq_false_iff_not] at hc)<;>(try (exfalso;omega))))
         refine s_againR (k+1) (fun i=>if i=0 then 4 else i) ?_ ?_ ?_ ?_ ?_ ?_<;>(first|omega|(dsimp only;omega)|(intro i hi;(try dsimp only);(repeat' split)<;>omega)|(intro i j hi hj h;(try dsimp only at h);(repeat' split at h)<;>omega)|skip)
         all_goals (simp [fitsTR,fitsMR,PV.ren,MB.ren,upd_def,PV.nmb,MB.nmb,hkm,keepT];done)
     | false =>
       rw [if_pos (by simp [dropN,ht]),List.append_nil] at hkm
       repeat' (first|((first|apply qwd|apply qa1|apply qa2|apply qh1|apply qg1 rfl|apply qcd);(try intro K hk);focus (simp only [lvX56_15,mkT,go_sem,Nat.reduceEqDiff,Nat.reduceAdd,Nat.reduceLeDiff,↓reduceIte,reduceCtorEq,encTks_len,hg,ht,Int.reduceEq,decide_false,Bool.not_false];first|exact rfl|((repeat refine ai ?_);intros;apply hk;clear hk K)))|apply qw1|refine qwc lvX56_15 ?_|apply qt1|apply qw5|apply qw2|apply qt2|apply qt5|apply qw3|apply qj1|apply qj2|apply qu1|(refine qj6 ?_ ?_<;>intro hc<;>(try simp only [hc])<;>(try simp only [decide_eq_true_eq,decide_eq_false_iff_not] at hc)<;>(try (exfalso;omega))))
       refine s_again (k+1) ?_ ?_ ?_<;>(first|omega|(dsimp only;omega)|skip)
       all_goals (simp [fits,fitsT,fitsM,upd_def,PV.nmb,MB.nmb,hkm];done)
   · cases ht:tagN nm with
     | true =>
       rw [if_neg (by simp [dropN,ht])] at hkm
       repeat' (first|((first|apply qwd|apply qa1|apply qa2|apply qh1|apply qg1 rfl|apply qcd);(try intro K hk);focus (simp only [lvX56_15,mkT,go_sem,Nat.reduceEqDiff,Nat.reduceAdd,Nat.reduceLeDiff,↓reduceIte,reduceCtorEq,encTks_len,hg,ht,Int.reduceEq,decide_false,Bool.not_true,Bool.not_false];first|exact rfl|((repeat refine ai ?_);intros;apply hk;clear hk K)))|apply qw1|refine qwc lvX56_15 ?_|apply qt1|apply qw5|apply qw2|apply qj1|apply qj2|apply qj4|apply qu1|(refine qj6 ?_ ?_<;>intro hc<;>(try simp only [hc])<;>(try simp only [decide_eq_true_eq,decide_eq_false_iff_not] at hc)<;>(try (exfalso;omega))))
       refine s_loop (ι:=Nat) (fun j=>[(0,.seq (encTks l)),(3,.own 0),(4,.int .i64 k),(5,.ref 1 0),(6,.own 2),(7,.int .i64 j)]) (fun j=>[(0,.row 29 4 (encTks (keepMk (l.take k)))),(1,.box [.int .i64 3,.str nm,.str v,.seq (encPrs ps)]),(2,.row 33 2 (encPrs ((ps.take j).filter (prN nm))))]) 3 (fun j=>j≤ps.length) (fun j=>ps.length - j) 0 (by omega) (Nat.zero_le _) ?_ ?_
       · simp [fits,fitsT,fitsM,upd_def,PV.nmb,nmbL,MB.nmb,encPrs_nil]
       intro j hj
       simp only [mkS,mkT,mkM]
       by_cases hjl:j<ps.length
       · obtain ⟨⟨pn,pv⟩,hp⟩:=get_some (xs:=ps) (k:=j) hjl
         obtain ⟨c1,c2⟩:=b4 _ (List.mem_of_getElem? hp)
         have hpg:(encPrs ps)[j]?=some [.str pn,.str pv]:=by rw [encPrs_get,hp];rfl
         have hf:=filt_snoc (p:=prN nm) hp
         have hfl:((ps.take j).filter (prN nm)).length≤j:=Nat.le_trans (List.length_filter_le _ _) (by rw [List.length_take];omega)
         dsimp only at c1 c2
         cases hpr:prN nm (pn,pv) with
         | true =>
           have hpb:pairB nm pn pv=true:=hpr
           rw [if_pos hpr] at hf
           repeat' (first|(refine s_draw 8 ?_ ?_;focus (decide +kernel))|(first|((first|apply qwd|apply qa1|apply qa3|apply qcd);(try intro K hk);focus (simp only [lvX56_15,mkT,go_sem,Nat.reduceEqDiff,Nat.reduceAdd,Nat.reduceLeDiff,↓reduceIte,reduceCtorEq,encPrs_len,encPrs_pt,hpg,hpb,ex_2];first|exact rfl|((repeat refine ai ?_);intros;apply hk;clear hk K)))|apply qw8|apply qw1|refine qwc lvX56_15 ?_|apply qt1|apply qw5|apply qw2|apply qw9|apply qt4|apply qj1|(refine qj6 ?_ ?_<;>intro hc<;>(try simp only [hc])<;>(try simp only [decide_eq_true_eq,decide_eq_false_iff_not] at hc)<;>(try (exfalso;omega)))))
           refine s_againR (j+1) (fun i=>if i=2 then 4 else i) ?_ ?_ ?_ ?_ ?_ ?_<;>(first|omega|(dsimp only;omega)|(intro i hi;(try dsimp only);(repeat' split)<;>omega)|(intro i j hi hj h;(try dsimp only at h);(repeat' split at h)<;>omega)|skip)
           all_goals (simp [fitsTR,fitsMR,PV.ren,renL,MB.ren,upd_def,PV.nmb,nmbL,MB.nmb,hf];done)
         | false =>
           have hpb:pairB nm pn pv=false:=hpr
           rw [if_neg (by rw [hpr];decide),List.append_nil] at hf
           repeat' (first|(refine s_draw 8 ?_ ?_;focus (decide +kernel))|(first|((first|apply qwd|apply qa1|apply qa3|apply qcd);(try intro K hk);focus (simp only [lvX56_15,mkT,go_sem,Nat.reduceEqDiff,Nat.reduceAdd,Nat.reduceLeDiff,↓reduceIte,reduceCtorEq,encPrs_len,hpg,hpb,ex_2];first|exact rfl|((repeat refine ai ?_);intros;apply hk;clear hk K)))|apply qw8|apply qw1|refine qwc lvX56_15 ?_|apply qt1|apply qw5|apply qw2|apply qw9|apply qt4|apply qj1|apply qj4|(refine qj6 ?_ ?_<;>intro hc<;>(try simp only [hc])<;>(try simp only [decide_eq_true_eq,decide_eq_false_iff_not] at hc)<;>(try (exfalso;omega)))))
           refine s_again (j+1) ?_ ?_ ?_<;>(first|omega|(dsimp only;omega)|skip)
           all_goals (simp [fits,fitsT,fitsM,upd_def,PV.nmb,nmbL,MB.nmb,hf];done)
       · obtain rfl:j=ps.length:=by omega
         rw [List.take_length]
         repeat' (first|((first|apply qwd|apply qa1|apply qa2|apply qcd);(try intro K hk);focus (simp only [lvX56_15,mkT,go_sem,Nat.reduceEqDiff,Nat.reduceAdd,Nat.reduceLeDiff,↓reduceIte,reduceCtorEq,encPrs_len,encTks_len,encTks_pt];first|exact rfl|((repeat refine ai ?_);intros;apply hk;clear hk K)))|apply qw1|refine qwc lvX56_15 ?_|apply qt1|apply qt2|apply qt4|apply qt5|apply qw3|apply qj4|(refine qj6 ?_ ?_<;>intro hc<;>(try simp only [hc])<;>(try simp only [decide_eq_true_eq,decide_eq_false_iff_not] at hc)<;>(try (exfalso;omega))))
         refine s_againR (k+1) (fun i=>if i=0 then 4 else i) ?_ ?_ ?_ ?_ ?_ ?_<;>(first|omega|(dsimp only;omega)|(intro i hi;(try dsimp only);(repeat' split)<;>omega)|(intro i j hi hj h;(try dsimp only at h);(repeat' split at h)<;>omega)|skip)
         all_goals (simp [fitsTR,fitsMR,PV.ren,MB.ren,upd_def,PV.nmb,MB.nmb,hkm,keepT];done)
     | false =>
       rw [if_pos (by simp [dropN,ht]),List.append_nil] at hkm
       repeat' (first|((first|apply qwd|apply qa1|apply qa2|apply qh1|apply qg1 rfl|apply qcd);(try intro K hk);focus (simp only [lvX56_15,mkT,go_sem,Nat.reduceEqDiff,Nat.reduceAdd,Nat.reduceLeDiff,↓reduceIte,reduceCtorEq,encTks_len,hg,ht,Int.reduceEq,decide_false,Bool.not_false];first|exact rfl|((repeat refine ai ?_);intros;apply hk;clear hk K)))|apply qw1|refine qwc lvX56_15 ?_|apply qt1|apply qw5|apply qw2|apply qt2|apply qt5|apply qw3|apply qj1|apply qj2|apply qu1|(refine qj6 ?_ ?_<;>intro hc<;>(try simp only [hc])<;>(try simp only [decide_eq_true_eq,decide_eq_false_iff_not] at hc)<;>(try (exfalso;omega))))
       refine s_again (k+1) ?_ ?_ ?_<;>(first|omega|(dsimp only;omega)|skip)
       all_goals (simp [fits,fitsT,fitsM,upd_def,PV.nmb,MB.nmb,hkm];done)
   · rw [if_pos (by simp [dropN]),List.append_nil] at hkm
     repeat' (first|((first|apply qwd|apply qa1|apply qa2|apply qg1 rfl|apply qcd);(try intro K hk);focus (simp only [lvX56_15,mkT,go_sem,Nat.reduceEqDiff,Nat.reduceAdd,Nat.reduceLeDiff,↓reduceIte,reduceCtorEq,encTks_len,hg,decide_true];first|exact rfl|((repeat refine ai ?_);intros;apply hk;clear hk K)))|apply qw1|refine qwc lvX56_15 ?_|apply qt1|apply qw5|apply qw2|apply qt2|apply qt5|apply qw3|apply qj1|apply qj3|apply qj5|apply qu1|(refine qj6 ?_ ?_<;>intro hc<;>(try simp only [hc])<;>(try simp only [decide_eq_true_eq,decide_eq_false_iff_not] at hc)<;>(try (exfalso;omega))))
     refine s_again (k+1) ?_ ?_ ?_<;>(first|omega|(dsimp only;omega)|skip)
     all_goals (simp [fits,fitsT,fitsM,upd_def,PV.nmb,MB.nmb,hkm];done)
   · rw [if_pos (by simp [dropN]),List.append_nil] at hkm
     repeat' (first|((first|apply qwd|apply qa1|apply qa2|apply qh1|apply qg1 rfl|apply qcd);(try intro K hk);focus (simp only [lvX56_15,mkT,go_sem,Nat.reduceEqDiff,Nat.reduceAdd,Nat.reduceLeDiff,↓reduceIte,reduceCtorEq,encTks_len,hg,Int.reduceEq,decide_true,decide_false];first|exact rfl|((repeat refine ai ?_);intros;apply hk;clear hk K)))|apply qw1|refine qwc lvX56_15 ?_|apply qt1|apply qw5|apply qw2|apply qt2|apply qt5|apply qw3|apply qj1|apply qj2|apply qj3|apply qj5|apply qu1|(refine qj6 ?_ ?_<;>intro hc<;>(try simp only [hc])<;>(try simp only [decide_eq_true_eq,decide_eq_false_iff_not] at hc)<;>(try (exfalso;omega))))
     refine s_again (k+1) ?_ ?_ ?_<;>(first|omega|(dsimp only;omega)|skip)
     all_goals (simp [fits,fitsT,fitsM,upd_def,PV.nmb,MB.nmb,hkm];done)
 · obtain rfl:k=l.length:=by omega
   have hs2:=sm_keep hsm
   obtain ⟨hj1,hj2⟩:=jn_keep hs2
   rw [cleanMk_eq] at hK
   rw [List.take_length]
   repeat' (first|((first|apply qwd|apply qa1|apply qcd);(try intro K hk);focus (simp only [lvX56_15,mkT,go_sem,Nat.reduceEqDiff,↓reduceIte,reduceCtorEq,encTks_len,encTks_iff];first|exact rfl|((repeat refine ai ?_);intros;apply hk;clear hk K)))|apply qw1|refine qwc lvX56_15 ?_|apply qt1|apply qt2|apply qt5|apply qw3|apply qw4|apply qj4|(refine qj6 ?_ ?_<;>intro hc<;>(try simp only [hc])<;>(try simp only [decide_eq_true_eq,decide_eq_false_iff_not] at hc)<;>(try (exfalso;omega))))
   ((first|refine fin_ret ?_|refine fin_end ?_);simp only [go_sem,↓upd_def,↓reduceIte])
   exact hK
end Go.Proofs.Ytnbjogilidfkdaa
