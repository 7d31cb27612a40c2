/- The law's walk over drawn parts and data: FillMixed. -/
import Derived.Test.YtnbjogilidfkdaaGreatUY18
import Derived.Test.YtnbjogilidfkdaaGreatUX16
import Derived.Test.YtnbjogilidfkdaaGreatUX23
import Derived.Test.YtnbjogilidfkdaaGreatUX22
import Derived.Test.YtnbjogilidfkdaaGreatUXC
import Derived.Test.YtnbjogilidfkdaaGreatUK3
import Derived.Test.YtnbjogilidfkdaaGreatUS0
import Derived.Test.YtnbjogilidfkdaaGreatUR11
import Derived.Test.YtnbjogilidfkdaaGreatUX61
import Derived.Test.YtnbjogilidfkdaaGreatUK23

namespace Go.Proofs.YtnbjogilidfkdaaGreat
attribute [local irreducible] awp arun acalm FinP Fin AX.then AX.inBlock Again aG gsel amix amixN amixC aop aopc aopd cutK
attribute [local go_sem] aBSliceD aSlice aSliceC boundOf aMk aCall aCallC aLenL aLen aPick_t aPick_f aNil aAlloc aBox aBuild bldPV aBSlice bsPV aApp newsOf destOf drp aConvX aConv aConvInt aLoad cellsAt aStore cellsPV setAt aFld aField aIdx aIndex aUn aBin' aBin aMax aExtract pvOf PV.isCell nmbL PV.nmb List.map_cons List.map_nil List.all_cons List.all_nil Bool.and_true Bool.true_and if_true if_false List.getD_cons_zero List.getD_cons_succ List.getD_nil Option.isSome_some true_and and_true and_self eq_self true_or or_true List.drop_zero List.drop_succ_cons List.drop_nil List.take_zero List.take_succ_cons List.take_nil List.length_cons List.length_nil List.length_map Option.getD_some Option.getD_none List.nil_append List.cons_append List.append_nil Option.some.injEq exists_eq_left' List.getElem?_cons_zero List.getElem?_cons_succ Int.toNat_natCast Int.natCast_inj toNat_succ Nat.zero_add res res1 resC owns owns1 ownsC List.flatMap_cons List.flatMap_nil List.flatten_cons List.flatten_nil List.mem_cons List.not_mem_nil or_false false_or forall_eq forall_eq_or_imp isFro frz frz1 pureC tabA isBld List.cons.injEq PV.seq.injEq PV.int.injEq PV.str.injEq PV.bool.injEq PV.agg.injEq inR tab Γof aRes packR Option.map_some Option.map_none rel Prod.exists exists_and_left exists_eq_left and_assoc beq_self_eq_true Bool.not_true Bool.not_false decide_true decide_false List.set_cons_zero List.set_cons_succ rst_nil rst_cons
attribute [local go_sem ↓] evT upd_def aop aopc aopd
set_option maxRecDepth 100000
set_option linter.unusedVariables false
set_option linter.unusedSimpArgs false
open Go.RowKit
def lvY49_5:Nat→List Nat
 | 0=>[0]
 | 1=>[0,15]
 | 2=>[2]
 | 3=>[3,4]
 | 4=>[3,4,5,6]
 | 5=>[3,4,5,6,7,8]
 | 6=>[3,4,5,6,40]
 | 7=>[2]
 | 8=>[3,4,5,42]
 | 9=>[2]
 | 10=>[3,4,5,9]
 | 11=>[3,4,5,9,10]
 | 12=>[3,4,5,9,10,51]
 | 13=>[3,4,5,9,10]
 | 14=>[3,4,5,9,10]
 | 15=>[5,9,11]
 | 16=>[2]
 | _=>[]
--LV=Y49
theorem mixM_len {xs:List PartD} {data:List FieldD} {o:Bs} (hw:wtL xs≤6000) (h:mixM xs data=some o):o.length≤1000000000:=by
 unfold mixM at h
 split at h
 · rename_i hs
   cases h
   have h1:=evL_wt xs 3 data st0 false (safe_parts hs.1).2.1 (dataB_bd hs.2)
   have h2:=cat_len outM_len (evL data st0 xs).1
   omega
 · cases h
/-- No field holds. -/
def nhB (l:List FieldD):Bool:=l.all fun f=>!f.holds
theorem nh_snoc {l:List FieldD} {k:Nat} {f:FieldD} (h:l[k]?=some f):nhB (l.take (k+1))=(nhB (l.take k) && !f.holds):=by
 unfold nhB
 rw [take_snoc' h,List.all_append]
 simp
theorem nh_no {l:List FieldD} (h:nhB l=true):noHold l:=by
 intro f hf
 unfold nhB at h
 rw [List.all_eq_true] at h
 have:=h f hf
 simpa using this
theorem drwFM:ACok Tryz.prog 20 (drwG (α:=List PartD×List FieldD) (fun x=>gdX x.1∧bdFs x.2) (fun x=> .tup [.seq (encPs x.1),.seq (encFs x.2)])):=drw_of (by
 refine ac_body 1 (tabA_cons drwFP (tabA_nil (Γof_ok tab_nil))) tab_nil mixed [.tmp 2,.tmp 3] Tryz.func20 rfl rfl (by kernel_rfl) (by kernel_rfl) ?_ (by kernel_rfl) ?_
 · intro args mem n K h
   obtain ⟨es,rfl,h⟩:=drw_args h
   rfl
 intro args mem n K h
 obtain ⟨es,rfl,⟨l,rfl,hl⟩,hK⟩:=drw_args h
 have hba:=bc_all l
 unfold entry
 repeat' (first|((first|apply qa1);(try intro K hk);focus (simp only [go_sem,Nat.reduceEqDiff,↓reduceIte,reduceCtorEq,exl];first|exact rfl|((repeat refine ai ?_);intros;apply hk;clear hk K)))|apply qw8|apply qw1|apply qw6|apply qt1|apply qw4)
 rename (List PartD×List FieldD)=>x
 refine fin_retA ?_
 simp only [go_sem,↓upd_def,Nat.reduceEqDiff,↓reduceIte]
 refine hK x _ _ _ (by assumption) ?_ (by omega)
 simp [res,res1,resC])
set_option maxHeartbeats 8000000 in
theorem FnFillMixed_pure:PureOk Tryz.prog 5 (rel (α:=Bs) (fun x=>[.seq (x.map bc)]) (fun x=>x.length≤9223372036854775807) (fun _=> .bool true)):=by
 refine pure_relA 1 (tabA_cons drwFM (tabA_nil (Γof_ok (tab_cons fm_i (tab_cons fm_s (tab_cons fs_i (tab_cons after_i (tab_cons alive9 tab_nil)))))))) (tab_cons fm_i (tab_cons fm_s (tab_cons fs_i (tab_cons after_i (tab_cons alive9 tab_nil))))) mixed [.tmp 2] Tryz.func5 rfl rfl (by kernel_rfl) (by kernel_rfl) (fun _=>rfl) (by kernel_rfl) ?_
 rintro l0 K hl hK
 have hba:=bc_all l0
 unfold entry
 repeat' (first|((first|apply qwd|apply qa1|apply qcd);(try intro K hk);focus (simp only [lvY49_5,mkT,go_sem,Nat.reduceEqDiff,↓reduceIte,reduceCtorEq,exl,true_and,encPs_iff,encFs_iff,gdX];first|exact rfl|((repeat refine ai ?_);intros;apply hk;clear hk K)))|apply qw1|refine qwc lvY49_5 ?_|apply qt1|apply qw2|apply qt3|apply qw4|apply qj1|apply qj4|(refine qj6 ?_ ?_<;>intro hc<;>(try simp only [hc])<;>(try simp only [decide_eq_true_eq,decide_eq_false_iff_not] at hc)<;>(try (exfalso;omega))))
 · ((first|refine fin_ret ?_|refine fin_end ?_);simp only [go_sem,↓upd_def,↓reduceIte])
   exact hK
 rename (List PartD×List FieldD)=>x9
 obtain ⟨xs,d⟩:=x9
 rename _∧_∧_=>hgx
 obtain ⟨b1,b2,b3⟩:=hgx
 dsimp only at b1 b2 b3
 have hok:=bdFs_ok b3
 have hdl:=b3.1
 cases hf:mixM xs d with
 | none =>
   repeat' (first|((first|apply qwd|apply qa1|apply qh1|apply qg1 rfl|apply qcd);(try intro K hk);focus (simp only [lvY49_5,mkT,go_sem,Nat.reduceEqDiff,↓reduceIte,exl,ex_unit9,true_and,encPs_iff,encFs_iff,hf,Option.getD_none,Option.isSome_none,decide_true,Bool.not_false,Bool.not_true];first|exact rfl|((repeat refine ai ?_);intros;apply hk;clear hk K)))|apply qw1|refine qwc lvY49_5 ?_|apply qt1|apply qw2|apply qt3|apply qw4|apply qj1|apply qj2|apply qj4|apply qu1)
   all_goals first
    | (((first|refine fin_ret ?_|refine fin_end ?_);simp only [go_sem,↓upd_def,↓reduceIte])
       exact hK)
    | skip
 | some o =>
   have hs:=mix_state hf
   have hle:=mixM_len b1 hf
   have ho:=okS_of stV_st0
   have hfl:=encFs_length d
   repeat' (first|((first|apply qwd|apply qa1|apply qh1|apply qg1 rfl|apply qcd);(try intro K hk);focus (simp only [lvY49_5,mkT,go_sem,Nat.reduceEqDiff,↓reduceIte,exl,true_and,encPs_iff,encFs_iff,hf,Option.getD_some,Option.isSome_some,decide_true,Bool.not_true];first|exact rfl|((repeat refine ai ?_);intros;apply hk;clear hk K)))|apply qw1|refine qwc lvY49_5 ?_|apply qt1|apply qw5|apply qw2|apply qj2|apply qj4|apply qu1)
   refine s_loop (ι:=Nat) (fun k=>[(3,.seq (encPs xs)),(4,.seq (encFs d)),(5,.str o),(9,.bool (nhB (d.take k))),(10,.int .i64 k)]) (fun _=>[]) 0 (fun k=>k≤d.length) (fun k=>d.length - k) 0 (by omega) (Nat.zero_le _) ?_ ?_
   · simp [fits,fitsT,fitsM,upd_def,PV.nmb,nhB]
   intro k hk
   simp only [mkS,mkT,mkM]
   by_cases hkl:k<d.length
   · obtain ⟨⟨gn,gt,gh,gi⟩,hx⟩:=get_some (xs:=d) (k:=k) hkl
     have hg:(encFs d)[k]?=some [.str gn,.str gt,.bool gh,.seq (strs gi)]:=by rw [encFs_get,hx];rfl
     have hkn:((k:Nat):Int).toNat=k:=Int.toNat_natCast k
     have hsn:=nh_snoc hx
     cases hnb:nhB (d.take k) with
     | true =>
       rw [hnb,Bool.true_and] at hsn
       repeat' (first|((first|apply qwd|apply qa1|apply qh1|apply qg1 rfl|apply qcd);(try intro K hk);focus (simp only [lvY49_5,mkT,go_sem,Nat.reduceEqDiff,Nat.reduceAdd,↓reduceIte,hfl,hg,hkn];first|exact rfl|((repeat refine ai ?_);intros;apply hk;clear hk K)))|apply qw1|refine qwc lvY49_5 ?_|apply qt1|apply qw5|apply qw2|apply qt4|apply qj1|apply qu1|(refine qj6 ?_ ?_<;>intro hc<;>(try simp only [hc])<;>(try simp only [decide_eq_true_eq,decide_eq_false_iff_not] at hc)<;>(try (exfalso;omega))))
       refine s_again (k+1) ?_ ?_ ?_<;>(first|omega|(dsimp only;omega)|skip)
       all_goals (simp [fits,fitsT,fitsM,upd_def,PV.nmb,hsn];done)
     | false =>
       rw [hnb,Bool.false_and] at hsn
       repeat' (first|((first|apply qwd|apply qa1|apply qg1 rfl|apply qcd);(try intro K hk);focus (simp only [lvY49_5,mkT,go_sem,Nat.reduceEqDiff,↓reduceIte,hfl];first|exact rfl|((repeat refine ai ?_);intros;apply hk;clear hk K)))|apply qw1|refine qwc lvY49_5 ?_|apply qt1|apply qw5|apply qw2|apply qt4|apply qj1|apply qj4|apply qu1|(refine qj6 ?_ ?_<;>intro hc<;>(try simp only [hc])<;>(try simp only [decide_eq_true_eq,decide_eq_false_iff_not] at hc)<;>(try (exfalso;omega))))
       refine s_again (k+1) ?_ ?_ ?_<;>(first|omega|(dsimp only;omega)|skip)
       all_goals (simp [fits,fitsT,fitsM,upd_def,PV.nmb,hsn];done)
   · obtain rfl:k=d.length:=by omega
     rw [List.take_length]
     cases hnb:nhB d with
     | true =>
       have hff:fillM xs d=some o:=by rw [← mix_fill (nh_no hnb)];exact hf
       repeat' (first|((first|apply qwd|apply qa1|apply qh1|apply qg1 rfl|apply qcd);(try intro K hk);focus (simp only [lvY49_5,mkT,go_sem,Nat.reduceEqDiff,↓reduceIte,exl,true_and,encPs_iff,encFs_iff,hfl,hff,Option.getD_some,Option.isSome_some,beq_self_eq_true,decide_true,Bool.not_true,encS_st0,encS_eq,ex_St,St_eta,hs];first|exact rfl|((repeat refine ai ?_);intros;apply hk;clear hk K)))|apply qw1|refine qwc lvY49_5 ?_|apply qt1|apply qt2|apply qt5|apply qw3|apply qw4|apply qj1|apply qj2|apply qj4|apply qu1|(refine qj6 ?_ ?_<;>intro hc<;>(try simp only [hc])<;>(try simp only [decide_eq_true_eq,decide_eq_false_iff_not] at hc)<;>(try (exfalso;omega))))
       all_goals first
        | (((first|refine fin_ret ?_|refine fin_end ?_);simp only [go_sem,↓upd_def,↓reduceIte])
           exact hK)
        | skip
     | false =>
       cases hff:fillM xs d with
       | none =>
         repeat' (first|((first|apply qwd|apply qa1|apply qh1|apply qg1 rfl|apply qcd);(try intro K hk);focus (simp only [lvY49_5,mkT,go_sem,Nat.reduceEqDiff,↓reduceIte,exl,true_and,encPs_iff,encFs_iff,hfl,hff,Option.getD_none,Option.isSome_none,beq_self_eq_true,decide_true,Bool.not_false,encS_st0,encS_eq,ex_St,St_eta,hs];first|exact rfl|((repeat refine ai ?_);intros;apply hk;clear hk K)))|apply qw1|refine qwc lvY49_5 ?_|apply qt1|apply qt2|apply qt5|apply qw3|apply qw4|apply qj1|apply qj3|apply qj4|apply qu1|(refine qj6 ?_ ?_<;>intro hc<;>(try simp only [hc])<;>(try simp only [decide_eq_true_eq,decide_eq_false_iff_not] at hc)<;>(try (exfalso;omega))))
         all_goals first
          | (((first|refine fin_ret ?_|refine fin_end ?_);simp only [go_sem,↓upd_def,↓reduceIte])
             exact hK)
          | skip
       | some y =>
         repeat' (first|((first|apply qwd|apply qa1|apply qh1|apply qg1 rfl|apply qcd);(try intro K hk);focus (simp only [lvY49_5,mkT,go_sem,Nat.reduceEqDiff,↓reduceIte,exl,true_and,encPs_iff,encFs_iff,hfl,hff,Option.getD_some,Option.isSome_some,beq_self_eq_true,decide_true,Bool.not_false,encS_st0,encS_eq,ex_St,St_eta,hs];first|exact rfl|((repeat refine ai ?_);intros;apply hk;clear hk K)))|apply qw1|refine qwc lvY49_5 ?_|apply qt1|apply qt2|apply qt5|apply qw3|apply qw4|apply qj1|apply qj3|apply qj4|apply qu1|(refine qj6 ?_ ?_<;>intro hc<;>(try simp only [hc])<;>(try simp only [decide_eq_true_eq,decide_eq_false_iff_not] at hc)<;>(try (exfalso;omega))))
         all_goals first
          | (((first|refine fin_ret ?_|refine fin_end ?_);simp only [go_sem,↓upd_def,↓reduceIte])
             exact hK)
          | skip
end Go.Proofs.YtnbjogilidfkdaaGreat
