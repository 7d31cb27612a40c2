/- The law's walk over drawn parts and data: FillPlain. -/
import Derived.Test.YtnbjogilidfkdaaGF12
import Derived.Test.YtnbjogilidfkdaaGK3
import Derived.Test.YtnbjogilidfkdaaGX16
import Derived.Test.YtnbjogilidfkdaaGS7
import Derived.Test.YtnbjogilidfkdaaGR11
import Derived.Test.YtnbjogilidfkdaaGXC
import Derived.Test.YtnbjogilidfkdaaGX1

namespace Go.Proofs.Ytnbjogilidfkdaa
set_option maxRecDepth 100000
set_option linter.unusedVariables false
set_option linter.unusedSimpArgs false
open Go.RowKit
--LV=Y18
theorem bdFs_ok {d:List FieldD} (h:bdFs d):okF d:=⟨by have:=h.1;omega,fun f hf=>by
 obtain ⟨h1,h2,h3,h4⟩:=h.2 f hf
 exact ⟨by omega,by omega,by omega,fun t ht=>by have:=h4 t ht;omega⟩⟩
end Go.Proofs.Ytnbjogilidfkdaa

/- Contracts: cleaned tokens: what is kept, what is joined. -/
namespace Go.Proofs.Ytnbjogilidfkdaa
attribute [local irreducible] awp arun acalm FinP Fin AX.then AX.inBlock Again aG gsel amix amixN amixC aop aopc aopd cutK
attribute [local go_sem] aBSliceD aSlice aSliceC boundOf aMk aCall aCallC aLenL aLen aPick_t aPick_f aNil aAlloc aBox aBuild bldPV aBSlice bsPV aApp newsOf destOf drp aConvX aConv aConvInt aLoad cellsAt aStore cellsPV setAt aFld aField aIdx aIndex aUn aBin' aBin aMax aExtract pvOf PV.isCell nmbL PV.nmb List.map_cons List.map_nil List.all_cons List.all_nil Bool.and_true Bool.true_and if_true if_false List.getD_cons_zero List.getD_cons_succ List.getD_nil Option.isSome_some true_and and_true and_self eq_self true_or or_true List.drop_zero List.drop_succ_cons List.drop_nil List.take_zero List.take_succ_cons List.take_nil List.length_cons List.length_nil List.length_map Option.getD_some Option.getD_none List.nil_append List.cons_append List.append_nil Option.some.injEq exists_eq_left' List.getElem?_cons_zero List.getElem?_cons_succ Int.toNat_natCast Int.natCast_inj toNat_succ Nat.zero_add res res1 resC owns owns1 ownsC List.flatMap_cons List.flatMap_nil List.flatten_cons List.flatten_nil List.mem_cons List.not_mem_nil or_false false_or forall_eq forall_eq_or_imp isFro frz frz1 pureC tabA isBld List.cons.injEq PV.seq.injEq PV.int.injEq PV.str.injEq PV.bool.injEq PV.agg.injEq inR tab Γof aRes packR Option.map_some Option.map_none rel Prod.exists exists_and_left exists_eq_left and_assoc beq_self_eq_true Bool.not_true Bool.not_false decide_true decide_false List.set_cons_zero List.set_cons_succ rst_nil rst_cons
attribute [local go_sem ↓] evT upd_def aop aopc aopd
set_option maxRecDepth 100000
set_option linter.unusedVariables false
set_option linter.unusedSimpArgs false
open Go.RowKit
--LV=X55
/-- Tokens that a text is divided into, small ones. -/
def wfTks (l:List TokD):Prop:=smTks l∧ ∀ t ∈ l,wfT t
end Go.Proofs.Ytnbjogilidfkdaa

/- Contracts: skeletons of tokens. -/
namespace Go.Proofs.Ytnbjogilidfkdaa
attribute [local irreducible] awp arun acalm FinP Fin AX.then AX.inBlock Again aG gsel amix amixN amixC aop aopc aopd cutK
attribute [local go_sem] aBSliceD aSlice aSliceC boundOf aMk aCall aCallC aLenL aLen aPick_t aPick_f aNil aAlloc aBox aBuild bldPV aBSlice bsPV aApp newsOf destOf drp aConvX aConv aConvInt aLoad cellsAt aStore cellsPV setAt aFld aField aIdx aIndex aUn aBin' aBin aMax aExtract pvOf PV.isCell nmbL PV.nmb List.map_cons List.map_nil List.all_cons List.all_nil Bool.and_true Bool.true_and if_true if_false List.getD_cons_zero List.getD_cons_succ List.getD_nil Option.isSome_some true_and and_true and_self eq_self true_or or_true List.drop_zero List.drop_succ_cons List.drop_nil List.take_zero List.take_succ_cons List.take_nil List.length_cons List.length_nil List.length_map Option.getD_some Option.getD_none List.nil_append List.cons_append List.append_nil Option.some.injEq exists_eq_left' List.getElem?_cons_zero List.getElem?_cons_succ Int.toNat_natCast Int.natCast_inj toNat_succ Nat.zero_add res res1 resC owns owns1 ownsC List.flatMap_cons List.flatMap_nil List.flatten_cons List.flatten_nil List.mem_cons List.not_mem_nil or_false false_or forall_eq forall_eq_or_imp isFro frz frz1 pureC tabA isBld List.cons.injEq PV.seq.injEq PV.int.injEq PV.str.injEq PV.bool.injEq PV.agg.injEq inR tab Γof aRes packR Option.map_some Option.map_none rel Prod.exists exists_and_left exists_eq_left and_assoc beq_self_eq_true Bool.not_true Bool.not_false decide_true decide_false List.set_cons_zero List.set_cons_succ rst_nil rst_cons
attribute [local go_sem ↓] evT upd_def aop aopc aopd
set_option maxRecDepth 100000
set_option linter.unusedVariables false
set_option linter.unusedSimpArgs false
open Go.RowKit
def lvX68_40:Nat→List Nat
 | 0=>[0]
 | 1=>[0,3]
 | 2=>[3,10,11,12]
 | 3=>[3,10,11,12,13]
 | 4=>[3,5,10,11,12]
 | 5=>[3,5,10,11,12,17]
 | 6=>[3,5,10,11,12,17,18]
 | 7=>[3,5,6,10,11,12]
 | 8=>[3,6,10,11,12,24,25,26]
 | 9=>[3,6,10,11,12,24,25,26,27]
 | 10=>[3,6,8,10,11,12,24,25,26]
 | 11=>[3,6,10,11,12,24,25,26]
 | 12=>[3,6,10,11,12,24,25,26]
 | 13=>[3,10,11,12]
 | 14=>[3,5,10,11,12,17,40]
 | 15=>[3,10,11,12]
 | 16=>[3,10,11,12,17,48]
 | 17=>[3,10,11,12]
 | 18=>[3,10,11,12,53]
 | 19=>[3,10,11,12]
 | 20=>[3,10,11,12]
 | 21=>[2]
 | _=>[]
--LV=X68
theorem strs_p68 (l:List Bs) (t:Bs):strs l++[[.str t]]=strs (l++[t]):=by unfold strs;rw [List.map_append];rfl
@[go_sem] def skC:PC:=rel (α:=List TokD) (fun x=>[.seq (encTks x)]) wfTks (fun x=> .seq (strs (skelM x)))
set_option maxHeartbeats 8000000 in
theorem sk_i:PureOk Try.prog 40 skC:=by
 refine pure_rel 1 tab_nil mixed [.tmp 2] Try.func40 rfl rfl (by kernel_rfl) (by kernel_rfl) (fun _=>rfl) (by kernel_rfl) ?_
 rintro l K ⟨hsm,hwf⟩ hK
 obtain ⟨hl,hall⟩:=id hsm
 unfold entry
 repeat' (first|((first|apply qwd|apply qa1);(try intro K hk);focus (simp only [lvX68_40,mkT,go_sem,Nat.reduceEqDiff,↓reduceIte,reduceCtorEq,encTks_len];first|exact rfl|((repeat refine ai ?_);intros;apply hk;clear hk K)))|apply qw1|refine qwc lvX68_40 ?_|apply qt1|apply qw5)
 refine s_loop (ι:=Nat) (fun k=>[(3,.own 0),(10,.seq (encTks l)),(11,.int .i64 l.length),(12,.int .i64 k)]) (fun k=>[(0,.row 9 1 (strs (skelM (l.take k))))]) 1 (fun k=>k≤l.length) (fun k=>l.length - k) 0 (by omega) (Nat.zero_le _) ?_ ?_
 · simp [fits,fitsT,fitsM,upd_def,PV.nmb,MB.nmb,skelM,strs]
 intro k hk
 simp only [mkS,mkT,mkM]
 by_cases hkl:k<l.length
 · obtain ⟨⟨kd,nm,v,ps⟩,hx⟩:=get_some (xs:=l) (k:=k) hkl
   have hsk:=smTk_at hsm hx
   obtain ⟨b1,b2,b3,b4⟩:=hsk
   obtain ⟨hw1,hw2⟩:=hwf _ (List.mem_of_getElem? hx)
   dsimp only at b1 b2 b3 b4 hw1 hw2
   have hg:(encTks l)[k]?=some [.int .i64 kd,.str nm,.str v,.seq (encPrs ps)]:=by rw [encTks_get,hx];rfl
   have hsn:=skel_snoc hx
   have hsl:=strs_length (skelM (l.take k))
   have hsa:=strs_all (skelM (l.take k))
   have hkl2:=skel_len (l.take k)
   rw [List.length_take] at hkl2
   rcases hw1 with rfl|rfl|rfl|rfl|rfl
   · rw [sk_1,List.append_nil] at hsn
     repeat' (first|((first|apply qwd|apply qa1|apply qa2|apply qcd);(try intro K hk);focus (simp only [lvX68_40,mkT,go_sem,Nat.reduceEqDiff,Nat.reduceAdd,Nat.reduceLeDiff,↓reduceIte,reduceCtorEq,hg,Int.reduceEq,decide_false];first|exact rfl|((repeat refine ai ?_);intros;apply hk;clear hk K)))|apply qw1|refine qwc lvX68_40 ?_|apply qt1|apply qw5|apply qw2|apply qt4|apply qj1|apply qj4|(refine qj6 ?_ ?_<;>intro hc<;>(try simp only [hc])<;>(try simp only [decide_eq_true_eq,decide_eq_false_iff_not] at hc)<;>(try (exfalso;omega))))
     refine s_again (k+1) ?_ ?_ ?_<;>(first|omega|(dsimp only;omega)|skip)
     all_goals (simp [fits,fitsT,fitsM,upd_def,PV.nmb,MB.nmb,hsn];done)
   · rw [sk_2] at hsn
     have htk:=skP_take (fun p hp=>(b4 p hp).1) b3
     repeat' (first|((first|apply qwd|apply qa1|apply qa2|apply qcd);(try intro K hk);focus (simp only [lvX68_40,mkT,go_sem,Nat.reduceEqDiff,Nat.reduceAdd,Nat.reduceLeDiff,↓reduceIte,reduceCtorEq,encPrs_len,hg,decide_true,List.length_cons,List.length_nil];first|exact rfl|((repeat refine ai ?_);intros;apply hk;clear hk K)))|apply qw1|refine qwc lvX68_40 ?_|apply qt1|apply qw5|apply qw2|apply qj1|(refine qj6 ?_ ?_<;>intro hc<;>(try simp only [hc])<;>(try simp only [decide_eq_true_eq,decide_eq_false_iff_not] at hc)<;>(try (exfalso;omega))))
     refine s_loop (ι:=Nat) (fun j=>[(3,.own 0),(6,.str ([60]++nm++(ps.take j).flatMap fun p=>32::p.1)),(10,.seq (encTks l)),(11,.int .i64 l.length),(12,.int .i64 k),(24,.seq (encPrs ps)),(25,.int .i64 ps.length),(26,.int .i64 j)]) (fun _=>[(0,.row 9 1 (strs (skelM (l.take k))))]) 2 (fun j=>j≤ps.length) (fun j=>ps.length - j) 0 (by omega) (Nat.zero_le _) ?_ ?_
     · simp [fits,fitsT,fitsM,upd_def,PV.nmb,MB.nmb]
     intro j hj
     simp only [mkS,mkT,mkM]
     have htj:=htk j
     by_cases hjl:j<ps.length
     · obtain ⟨⟨pn,pv⟩,hp⟩:=get_some (xs:=ps) (k:=j) hjl
       obtain ⟨c1,c2⟩:=b4 _ (List.mem_of_getElem? hp)
       have hpg:(encPrs ps)[j]?=some [.str pn,.str pv]:=by rw [encPrs_get,hp];rfl
       have hsp:=skP_snoc hp
       dsimp only at c1 c2
       repeat' (first|((first|apply qwd|apply qa1|apply qa2|apply qcd);(try intro K hk);focus (simp only [lvX68_40,mkT,go_sem,Nat.reduceEqDiff,Nat.reduceAdd,Nat.reduceLeDiff,↓reduceIte,reduceCtorEq,hpg,List.length_append,List.length_cons,List.length_nil];first|exact rfl|((repeat refine ai ?_);intros;apply hk;clear hk K)))|apply qw1|refine qwc lvX68_40 ?_|apply qt1|apply qw5|apply qw2|apply qt4|apply qj1|(refine qj6 ?_ ?_<;>intro hc<;>(try simp only [hc])<;>(try simp only [decide_eq_true_eq,decide_eq_false_iff_not] at hc)<;>(try (exfalso;omega))))
       refine s_again (j+1) ?_ ?_ ?_<;>(first|omega|(dsimp only;omega)|skip)
       all_goals (simp [fits,fitsT,fitsM,upd_def,PV.nmb,MB.nmb,hsp];done)
     · obtain rfl:j=ps.length:=by omega
       rw [List.take_length]
       rw [List.take_length] at htj
       repeat' (first|((first|apply qwd|apply qa1|apply qcd);(try intro K hk);focus (simp only [lvX68_40,mkT,go_sem,Nat.reduceEqDiff,Nat.reduceAdd,Nat.reduceLeDiff,↓reduceIte,reduceCtorEq,hsl,strs_p68,List.length_cons,List.length_nil];first|exact rfl|((repeat refine ai ?_);intros;apply hk;clear hk K)))|apply qw1|refine qwc lvX68_40 ?_|apply qt1|apply qt2|apply qt4|apply qt5|apply qw3|apply qj4|(refine qj6 ?_ ?_<;>intro hc<;>(try simp only [hc])<;>(try simp only [decide_eq_true_eq,decide_eq_false_iff_not] at hc)<;>(try (exfalso;omega))))
       refine s_againR (k+1) (fun i=>if i=0 then 3 else i) ?_ ?_ ?_ ?_ ?_ ?_<;>(first|omega|(dsimp only;omega)|(intro i hi;(try dsimp only);(repeat' split)<;>omega)|(intro i j hi hj h;(try dsimp only at h);(repeat' split at h)<;>omega)|skip)
       all_goals (simp [fitsTR,fitsMR,PV.ren,MB.ren,upd_def,PV.nmb,MB.nmb,hsn];done)
   · rw [sk_3] at hsn
     repeat' (first|((first|apply qwd|apply qa1|apply qa2|apply qcd);(try intro K hk);focus (simp only [lvX68_40,mkT,go_sem,Nat.reduceEqDiff,Nat.reduceAdd,Nat.reduceLeDiff,↓reduceIte,reduceCtorEq,hg,hsl,strs_p68,Int.reduceEq,decide_true,decide_false,List.length_cons,List.length_nil];first|exact rfl|((repeat refine ai ?_);intros;apply hk;clear hk K)))|apply qw1|refine qwc lvX68_40 ?_|apply qt1|apply qw5|apply qw2|apply qt4|apply qj1|apply qj4|(refine qj6 ?_ ?_<;>intro hc<;>(try simp only [hc])<;>(try simp only [decide_eq_true_eq,decide_eq_false_iff_not] at hc)<;>(try (exfalso;omega))))
     refine s_againR (k+1) (fun i=>if i=0 then 3 else i) ?_ ?_ ?_ ?_ ?_ ?_<;>(first|omega|(dsimp only;omega)|(intro i hi;(try dsimp only);(repeat' split)<;>omega)|(intro i j hi hj h;(try dsimp only at h);(repeat' split at h)<;>omega)|skip)
     all_goals (simp [fitsTR,fitsMR,PV.ren,MB.ren,upd_def,PV.nmb,MB.nmb,hsn];done)
   · rw [sk_4] at hsn
     repeat' (first|((first|apply qwd|apply qa1|apply qa2|apply qcd);(try intro K hk);focus (simp only [lvX68_40,mkT,go_sem,Nat.reduceEqDiff,Nat.reduceAdd,Nat.reduceLeDiff,↓reduceIte,reduceCtorEq,hg,hsl,strs_p68,Int.reduceEq,decide_true,decide_false];first|exact rfl|((repeat refine ai ?_);intros;apply hk;clear hk K)))|apply qw1|refine qwc lvX68_40 ?_|apply qt1|apply qw5|apply qw2|apply qt4|apply qj1|apply qj4|(refine qj6 ?_ ?_<;>intro hc<;>(try simp only [hc])<;>(try simp only [decide_eq_true_eq,decide_eq_false_iff_not] at hc)<;>(try (exfalso;omega))))
     refine s_againR (k+1) (fun i=>if i=0 then 3 else i) ?_ ?_ ?_ ?_ ?_ ?_<;>(first|omega|(dsimp only;omega)|(intro i hi;(try dsimp only);(repeat' split)<;>omega)|(intro i j hi hj h;(try dsimp only at h);(repeat' split at h)<;>omega)|skip)
     all_goals (simp [fitsTR,fitsMR,PV.ren,MB.ren,upd_def,PV.nmb,MB.nmb,hsn];done)
   · rw [sk_5] at hsn
     repeat' (first|((first|apply qwd|apply qa1|apply qa2|apply qcd);(try intro K hk);focus (simp only [lvX68_40,mkT,go_sem,Nat.reduceEqDiff,Nat.reduceAdd,Nat.reduceLeDiff,↓reduceIte,reduceCtorEq,hg,hsl,strs_p68,Int.reduceEq,decide_true,decide_false];first|exact rfl|((repeat refine ai ?_);intros;apply hk;clear hk K)))|apply qw1|refine qwc lvX68_40 ?_|apply qt1|apply qw5|apply qw2|apply qt4|apply qj1|apply qj4|(refine qj6 ?_ ?_<;>intro hc<;>(try simp only [hc])<;>(try simp only [decide_eq_true_eq,decide_eq_false_iff_not] at hc)<;>(try (exfalso;omega))))
     refine s_againR (k+1) (fun i=>if i=0 then 3 else i) ?_ ?_ ?_ ?_ ?_ ?_<;>(first|omega|(dsimp only;omega)|(intro i hi;(try dsimp only);(repeat' split)<;>omega)|(intro i j hi hj h;(try dsimp only at h);(repeat' split at h)<;>omega)|skip)
     all_goals (simp [fitsTR,fitsMR,PV.ren,MB.ren,upd_def,PV.nmb,MB.nmb,hsn];done)
 · obtain rfl:k=l.length:=by omega
   repeat' (first|((first|apply qwd|apply qa1|apply qcd);(try intro K hk);focus (simp only [lvX68_40,mkT,go_sem,Nat.reduceEqDiff,↓reduceIte];first|exact rfl|((repeat refine ai ?_);intros;apply hk;clear hk K)))|apply qw1|refine qwc lvX68_40 ?_|apply qt1|apply qt2|apply qt5|apply qw3|apply qw4|apply qj4|(refine qj6 ?_ ?_<;>intro hc<;>(try simp only [hc])<;>(try simp only [decide_eq_true_eq,decide_eq_false_iff_not] at hc)<;>(try (exfalso;omega))))
   ((first|refine fin_ret ?_|refine fin_end ?_);simp only [go_sem,↓upd_def,↓reduceIte])
   rw [List.take_length]
   exact hK
end Go.Proofs.Ytnbjogilidfkdaa
