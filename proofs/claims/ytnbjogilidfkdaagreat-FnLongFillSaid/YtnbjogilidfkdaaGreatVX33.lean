/- Contracts: the reference's l16Fill, FillSafe. -/
import Derived.Test.YtnbjogilidfkdaaGreatVX16
import Derived.Test.YtnbjogilidfkdaaGreatVX23
import Derived.Test.YtnbjogilidfkdaaGreatVX22
import Derived.Test.YtnbjogilidfkdaaGreatVXC

namespace Go.Proofs.YtnbjogilidfkdaaGreat
attribute [local irreducible] awp arun acalm FinP Fin AX.then AX.inBlock Again aG gsel amix amixN amixC aop aopc aopd cutK
attribute [local go_sem] aBSliceD aSlice aSliceC boundOf aMk aCall aCallC aLenL aLen aPick_t aPick_f aNil aAlloc aBox aBuild bldPV aBSlice bsPV aApp newsOf destOf drp aConvX aConv aConvInt aLoad cellsAt aStore cellsPV setAt aFld aField aIdx aIndex aUn aBin' aBin aMax aExtract pvOf PV.isCell nmbL PV.nmb List.map_cons List.map_nil List.all_cons List.all_nil Bool.and_true Bool.true_and if_true if_false List.getD_cons_zero List.getD_cons_succ List.getD_nil Option.isSome_some true_and and_true and_self eq_self true_or or_true List.drop_zero List.drop_succ_cons List.drop_nil List.take_zero List.take_succ_cons List.take_nil List.length_cons List.length_nil List.length_map Option.getD_some Option.getD_none List.nil_append List.cons_append List.append_nil Option.some.injEq exists_eq_left' List.getElem?_cons_zero List.getElem?_cons_succ Int.toNat_natCast Int.natCast_inj toNat_succ Nat.zero_add res res1 resC owns owns1 ownsC List.flatMap_cons List.flatMap_nil List.flatten_cons List.flatten_nil List.mem_cons List.not_mem_nil or_false false_or forall_eq forall_eq_or_imp isFro frz frz1 pureC tabA isBld List.cons.injEq PV.seq.injEq PV.int.injEq PV.str.injEq PV.bool.injEq PV.agg.injEq inR tab Γof aRes packR Option.map_some Option.map_none rel Prod.exists exists_and_left exists_eq_left and_assoc beq_self_eq_true Bool.not_true Bool.not_false decide_true decide_false List.set_cons_zero List.set_cons_succ rst_nil rst_cons
attribute [local go_sem ↓] evT upd_def aop aopc aopd
set_option maxRecDepth 100000
set_option linter.unusedVariables false
set_option linter.unusedSimpArgs false
open Go.RowKit
def lvX33_8:Nat→List Nat
 | 0=>[0,1]
 | 1=>[0,1,13]
 | 2=>[4,5]
 | 3=>[4,5]
 | _=>[]
def lvX33_34:Nat→List Nat
 | 0=>[1,2,3]
 | 1=>[1,2,3,7]
 | 2=>[1,2,3,7,8]
 | 3=>[1,2,3,7,8,15]
 | 4=>[1,2,3,7,8]
 | 5=>[1,2,3,7,8,9]
 | 6=>[1,2,3,7,8,9,10]
 | 7=>[1,2,3,7,8,9,10,27]
 | 8=>[1,2,3,7,8,9,29]
 | 9=>[1,2,3,7,8]
 | 10=>[1,2,3,7,8]
 | 11=>[1,2,3,7,8,9,10,27,44]
 | 12=>[1,2,3,7,8]
 | 13=>[1,2,3,7,8,9,10,27,50]
 | 14=>[1,2,3,7,8]
 | 15=>[1,2,3,7,8,9,10,59]
 | 16=>[1,2,3,7,8,9,10,11]
 | 17=>[1,2,3,7,8,9,10,11,65]
 | 18=>[1,2,3,7,8,9,10,11]
 | 19=>[1,2,3,7,8,9,10,11]
 | 20=>[1,2,3,7,8]
 | 21=>[6]
 | _=>[]
--LV=X33
@[go_sem] def sfC (n:Nat):PC:=rel (α:=St×List PartD×List FieldD) (fun x=>[.agg (encS x.1),.seq (encPs x.2.1),.seq (encFs x.2.2)]) (fun x=>wtL x.2.1<n∧wtL x.2.1≤1073741824∧stV x.1=true∧(∃ d b,gdL d b x.2.1=true∧x.2.2.length+d≤900)∧dBd x.2.2∧(chkL x.1 x.2.1).mode≠15∧wEs (evL x.2.2 x.1 x.2.1).1≤109951162777600) (fun x=> .str (cat outS (evL x.2.2 x.1 x.2.1).1))
theorem so_len (l:List Ev):(cat outS l).length≤wEs l:=cat_len outS_len l
set_option maxHeartbeats 16000000 in
theorem sf_s: ∀ n,PureOk Tryz.prog 34 (sfC n):=by
 intro n
 induction n with
 | zero=>exact never_rel Tryz.func34 (by kernel_rfl) (by kernel_rfl) (fun x h=>absurd h.1 (Nat.not_lt_zero _))
 | succ n ih =>
 refine pure_rel 3 (tab_cons ih (tab_cons fld_s (tab_cons wi_s (tab_cons place_s (tab_cons chk_sc (tab_cons ef_s tab_nil)))))) mixed [.tmp 6] Tryz.func34 rfl rfl (by kernel_rfl) (by kernel_rfl) (fun _=>rfl) (by kernel_rfl) ?_
 rintro ⟨s,xs,data⟩ K ⟨hn,hb,hv,⟨d,b,hgd,hdd⟩,hdb,hm,hle⟩ hK
 dsimp only at *
 clear ih
 have hlw:=len_le_wtL xs
 unfold entry
 repeat' (first|((first|apply qwd|apply qa1|apply qa2|apply qa3|apply qh1|apply qh2|apply qg1 rfl|apply qcd);(try intro K hk);focus (simp only [lvX33_34,mkT,go_sem,Nat.reduceEqDiff,Nat.reduceAdd,Nat.reduceLeDiff,Nat.reduceLT,Nat.reduceSub,Int.reduceToNat,↓reduceIte,reduceCtorEq,encS_eq,ex_St,St_eta,encPs_length];first|exact rfl|((repeat refine ai ?_);intros;apply hk;clear hk K)))|apply qw8|apply qw1|refine qwc lvX33_34 ?_|apply qt1|apply qw5|apply qw2|apply qw9|apply qt2|apply qt3|apply qt4|apply qt5|apply qt6|apply qw3|apply qw4|apply qj1|apply qj2|apply qj3|apply qj4|apply qj5|apply qu1|apply qu2|(refine qj6 ?_ ?_<;>intro hc<;>(try simp only [hc])<;>(try simp only [decide_eq_true_eq,decide_eq_false_iff_not,Bool.not_eq_true',Bool.not_eq_false',Bool.not_eq_true,reduceCtorEq] at hc)<;>(try (exfalso;omega)))|(refine qt7 ?_ ?_;focus decide)|(refine qw7 ?_ ?_ ?_;(focus (decide +kernel));(focus (decide +kernel))))
 refine s_loop (ι:=Nat) (fun k=>[(1,.seq (encPs xs)),(2,.seq (encFs data)),(3,.ref 0 0),(7,.str (cat outS (evL data s (xs.take k)).1)),(8,.int .i64 k)]) (fun k=>[(0,.box (encS (chkL s (xs.take k))))]) 1 (fun k=>k≤xs.length) (fun k=>xs.length - k) 0 (by omega) (Nat.zero_le _) ?_ ?_
 · simp [fits,fitsT,fitsM,upd_def,PV.nmb,nmbL,MB.nmb,List.getD_cons_zero,List.getD_cons_succ,evL_nil,chkL_nil,cat,encS]
 intro k hk
 have hvk:=stV_chkL (xs.take k) s hv
 simp only [mkS,mkT,mkM]
 by_cases hkl:k<xs.length
 · obtain ⟨⟨kd,t,nm,ps,os⟩,hx⟩:=get_some (xs:=xs) (k:=k) (by omega)
   have htk:=take_snoc' hx
   have ws:=wtL_split hx
   rw [wtP_mk] at ws
   have hget:=encPs_get xs
   obtain ⟨hgp,hmk,hmp,hwk,hsn,hone⟩:=chk_at hv hgd hm hx
   have hs:=evL_snoc (data:=data) (s:=s) hx
   have hsp:=ev_split (data:=data) (s:=s) hx
   have hevk:=ev_chkL (xs.take k) d data s b (gdL_take hgd k) hmk
   rw [hevk] at hs hsp
   obtain ⟨hm1,hm2⟩:=kids_ok hgp hmk hmp
   have hdeep:=gd_deep hgp
   have ho:=okS_of hvk
   have hlp:=len_le_wtL ps
   have hlo:=len_le_wtL os
   have hfb:=find_bd hdb nm
   have hfl:=fun t=>with_len data t
   have hwb:=fun t ht=> @with_bd data hdb t ht
   have hpa:=encPs_all xs
   have n1:((k:Int)+1).toNat=k+1:=by omega
   have hsl:=sl_one hx
   have w1:wtL [PartD.mk kd t nm ps os]≤wtL xs:=by rw [wtL_one,wtP_mk];omega
   have g1: ∃ d b,gdL d b [PartD.mk kd t nm ps os]=true:=⟨d,false,by rw [gdL,gdL_nil];simp [hgp]⟩
   have hkd:kd=1∨kd=2∨kd=3∨kd=4:=by
    by_cases h34:kd=3∨kd=4
    · omega
    · have:=(gd_none hgp h34).1;omega
   have hl1:=so_len (evL data s (xs.take k)).1
   generalize hcur:chkL s (xs.take k)=cur at *
   have p1:= @ev1 data cur kd t nm ps os
   have p2:= @ev2 data cur kd t nm ps os
   have p3:= @ev3 data cur kd t nm ps os
   have p3o:= @ev3o data cur kd t nm ps os
   have p4:= @ev4 data cur kd t nm ps os
   obtain ⟨fn,hff⟩:=fdS_mk data nm
   generalize hfq:findF data nm=fq at *
   obtain ⟨gn,ft,fh,fi⟩:=fq
   dsimp only at hfb hff p2 p3 p3o p4
   generalize (evL data s (xs.take k)).1=evk at *
   have hh1: ∀ t,cat outS [Ev.txt t]=t:=fun t=>by simp [cat,outS]
   have hh2: ∀ f c,cat outS [Ev.hole f c]=escFor (placeM c) f.text:=fun f c=>by simp [cat,outS]
   rcases hkd with rfl|rfl|rfl|rfl
   · rw [p1 rfl] at hs hsp
     rw [wEs_one,wE_txt] at hsp
     repeat' (first|(refine s_draw 7 ?_ ?_;focus (decide +kernel))|(first|((first|apply qwd|apply qa1|apply qa2|apply qa3|apply qh1|apply qh2|apply qg1 rfl|apply qcd);(try intro K hk);focus (simp only [lvX33_34,mkT,go_sem,Nat.reduceEqDiff,Nat.reduceAdd,Nat.reduceLeDiff,Nat.reduceLT,Nat.reduceSub,Int.reduceToNat,↓reduceIte,reduceCtorEq,encPs_length,hget,hx,encP_mk,encS_eq,ex_St,St_eta,encF_mk,encFs_iff,hff,n1,hsl,hone,Int.toNat_natCast];first|exact rfl|((repeat refine ai ?_);intros;apply hk;clear hk K)))|apply qw8|apply qw1|refine qwc lvX33_34 ?_|apply qt1|apply qw5|apply qw2|apply qw9|apply qt2|apply qt3|apply qt4|apply qt5|apply qt6|apply qw3|apply qw4|apply qj1|apply qj2|apply qj3|apply qj4|apply qj5|apply qu1|apply qu2|(refine qj6 ?_ ?_<;>intro hc<;>(try simp only [hc])<;>(try simp only [decide_eq_true_eq,decide_eq_false_iff_not,Bool.not_eq_true',Bool.not_eq_false',Bool.not_eq_true,reduceCtorEq] at hc)<;>(try (exfalso;omega)))|(refine qt7 ?_ ?_;focus decide)|(refine qw7 ?_ ?_ ?_;(focus (decide +kernel));(focus (decide +kernel)))))
     refine s_again (k+1) ?_ ?_ ?_<;>(first|omega|(dsimp only;omega)|skip)
     simp [fits,fitsT,fitsM,upd_def,PV.nmb,nmbL,MB.nmb,List.getD_cons_zero,List.getD_cons_succ,hs,hsn,cat_append,hh1,encS]
   · rw [p2 rfl] at hs hsp
     rw [wEs_one,wE_hole] at hsp
     have hel:=escFor_len (placeM cur) ft
     repeat' (first|(refine s_draw 7 ?_ ?_;focus (decide +kernel))|(first|((first|apply qwd|apply qa1|apply qa2|apply qa3|apply qh1|apply qh2|apply qg1 rfl|apply qcd);(try intro K hk);focus (simp only [lvX33_34,mkT,go_sem,Nat.reduceEqDiff,Nat.reduceAdd,Nat.reduceLeDiff,Nat.reduceLT,Nat.reduceSub,Int.reduceToNat,↓reduceIte,reduceCtorEq,encPs_length,hget,hx,encP_mk,encS_eq,ex_St,St_eta,encF_mk,encFs_iff,hff,n1,hsl,hone,Int.toNat_natCast];first|exact rfl|((repeat refine ai ?_);intros;apply hk;clear hk K)))|apply qw8|apply qw1|refine qwc lvX33_34 ?_|apply qt1|apply qw5|apply qw2|apply qw9|apply qt2|apply qt3|apply qt4|apply qt5|apply qt6|apply qw3|apply qw4|apply qj1|apply qj2|apply qj3|apply qj4|apply qj5|apply qu1|apply qu2|(refine qj6 ?_ ?_<;>intro hc<;>(try simp only [hc])<;>(try simp only [decide_eq_true_eq,decide_eq_false_iff_not,Bool.not_eq_true',Bool.not_eq_false',Bool.not_eq_true,reduceCtorEq] at hc)<;>(try (exfalso;omega)))|(refine qt7 ?_ ?_;focus decide)|(refine qw7 ?_ ?_ ?_;(focus (decide +kernel));(focus (decide +kernel)))))
     refine s_again (k+1) ?_ ?_ ?_<;>(first|omega|(dsimp only;omega)|skip)
     simp [fits,fitsT,fitsM,upd_def,PV.nmb,nmbL,MB.nmb,List.getD_cons_zero,List.getD_cons_succ,hs,hsn,cat_append,hh2,encS]
   · obtain ⟨hd1,hd2,hd3⟩:=hdeep (.inl rfl)
     have g3: ∃ d b,gdL d b ps=true∧data.length+d≤900:=⟨d - 1,false,hd2,by omega⟩
     have g4: ∃ d b,gdL d b os=true∧data.length+d≤900:=⟨d - 1,false,hd3,by omega⟩
     have hz1:=so_len (evL data cur ps).1
     have hz2:=so_len (evL data cur os).1
     cases fh with
     | true =>
       rw [p3 rfl rfl] at hs hsp
       repeat' (first|(refine s_draw 7 ?_ ?_;focus (decide +kernel))|(first|((first|apply qwd|apply qa1|apply qa2|apply qa3|apply qh1|apply qh2|apply qg1 rfl|apply qcd);(try intro K hk);focus (simp only [lvX33_34,mkT,go_sem,Nat.reduceEqDiff,Nat.reduceAdd,Nat.reduceLeDiff,Nat.reduceLT,Nat.reduceSub,Int.reduceToNat,↓reduceIte,reduceCtorEq,encPs_length,hget,hx,encP_mk,encS_eq,ex_St,St_eta,encF_mk,encFs_iff,hff,n1,hsl,hone,Int.toNat_natCast];first|exact rfl|((repeat refine ai ?_);intros;apply hk;clear hk K)))|apply qw8|apply qw1|refine qwc lvX33_34 ?_|apply qt1|apply qw5|apply qw2|apply qw9|apply qt2|apply qt3|apply qt4|apply qt5|apply qt6|apply qw3|apply qw4|apply qj1|apply qj2|apply qj3|apply qj4|apply qj5|apply qu1|apply qu2|(refine qj6 ?_ ?_<;>intro hc<;>(try simp only [hc])<;>(try simp only [decide_eq_true_eq,decide_eq_false_iff_not,Bool.not_eq_true',Bool.not_eq_false',Bool.not_eq_true,reduceCtorEq] at hc)<;>(try (exfalso;omega)))|(refine qt7 ?_ ?_;focus decide)|(refine qw7 ?_ ?_ ?_;(focus (decide +kernel));(focus (decide +kernel)))))
       refine s_again (k+1) ?_ ?_ ?_<;>(first|omega|(dsimp only;omega)|skip)
       simp [fits,fitsT,fitsM,upd_def,PV.nmb,nmbL,MB.nmb,List.getD_cons_zero,List.getD_cons_succ,hs,hsn,cat_append,encS]
     | false =>
       rw [p3o rfl rfl] at hs hsp
       repeat' (first|(refine s_draw 7 ?_ ?_;focus (decide +kernel))|(first|((first|apply qwd|apply qa1|apply qa2|apply qa3|apply qh1|apply qh2|apply qg1 rfl|apply qcd);(try intro K hk);focus (simp only [lvX33_34,mkT,go_sem,Nat.reduceEqDiff,Nat.reduceAdd,Nat.reduceLeDiff,Nat.reduceLT,Nat.reduceSub,Int.reduceToNat,↓reduceIte,reduceCtorEq,encPs_length,hget,hx,encP_mk,encS_eq,ex_St,St_eta,encF_mk,encFs_iff,hff,n1,hsl,hone,Int.toNat_natCast];first|exact rfl|((repeat refine ai ?_);intros;apply hk;clear hk K)))|apply qw8|apply qw1|refine qwc lvX33_34 ?_|apply qt1|apply qw5|apply qw2|apply qw9|apply qt2|apply qt3|apply qt4|apply qt5|apply qt6|apply qw3|apply qw4|apply qj1|apply qj2|apply qj3|apply qj4|apply qj5|apply qu1|apply qu2|(refine qj6 ?_ ?_<;>intro hc<;>(try simp only [hc])<;>(try simp only [decide_eq_true_eq,decide_eq_false_iff_not,Bool.not_eq_true',Bool.not_eq_false',Bool.not_eq_true,reduceCtorEq] at hc)<;>(try (exfalso;omega)))|(refine qt7 ?_ ?_;focus decide)|(refine qw7 ?_ ?_ ?_;(focus (decide +kernel));(focus (decide +kernel)))))
       refine s_again (k+1) ?_ ?_ ?_<;>(first|omega|(dsimp only;omega)|skip)
       simp [fits,fitsT,fitsM,upd_def,PV.nmb,nmbL,MB.nmb,List.getD_cons_zero,List.getD_cons_succ,hs,hsn,cat_append,encS]
   · obtain ⟨hd1,hd2,hd3⟩:=hdeep (.inr rfl)
     have g3: ∀ t,∃ d b,gdL d b ps=true∧(withF data t).length+d≤900:=fun t=>⟨d - 1,false,hd2,by have:=hfl t;omega⟩
     obtain ⟨hf1,hf2,hf3⟩:=hfb
     have hsl9:=strs_length fi
     have hgs:=strK_get fi
     rw [p4 rfl] at hs hsp
     dsimp only at hs hsp
     repeat' (first|((first|apply qwd|apply qa1|apply qa2|apply qa3|apply qh1|apply qh2|apply qg1 rfl|apply qcd);(try intro K hk);focus (simp only [lvX33_34,mkT,go_sem,Nat.reduceEqDiff,Nat.reduceAdd,Nat.reduceLeDiff,Nat.reduceLT,Nat.reduceSub,Int.reduceToNat,↓reduceIte,reduceCtorEq,encPs_length,hget,hx,encP_mk,encS_eq,ex_St,St_eta,encF_mk,encFs_iff,hff];first|exact rfl|((repeat refine ai ?_);intros;apply hk;clear hk K)))|apply qw8|apply qw1|refine qwc lvX33_34 ?_|apply qt1|apply qw5|apply qw2|apply qw9|apply qt2|apply qt3|apply qt4|apply qt5|apply qt6|apply qw3|apply qw4|apply qj1|apply qj2|apply qj3|apply qj4|apply qj5|apply qu1|apply qu2|(refine qj6 ?_ ?_<;>intro hc<;>(try simp only [hc])<;>(try simp only [decide_eq_true_eq,decide_eq_false_iff_not,Bool.not_eq_true',Bool.not_eq_false',Bool.not_eq_true,reduceCtorEq] at hc)<;>(try (exfalso;omega)))|(refine qt7 ?_ ?_;focus decide)|(refine qw7 ?_ ?_ ?_;(focus (decide +kernel));(focus (decide +kernel))))
     refine s_loop (ι:=Nat) (fun j=>[(1,.seq (encPs xs)),(2,.seq (encFs data)),(3,.ref 0 0),(7,.str (cat outS (evk++evI data cur ps (fi.take j)))),(8,.int .i64 k),(9,.ref 1 0),(10,.ref 2 0),(11,.int .i64 j)]) (fun j=>[(0,.box (encS cur)),(1,.box [.int .i64 4,.str t,.str nm,.seq (encPs ps),.seq (encPs os)]),(2,.box [.str fn,.str ft,.bool fh,.seq (strs fi)])]) 3 (fun j=>j≤fi.length) (fun j=>fi.length - j) 0 (by omega) (Nat.zero_le _) ?_ ?_
     · simp [fits,fitsT,fitsM,upd_def,PV.nmb,nmbL,MB.nmb,List.getD_cons_zero,List.getD_cons_succ,evI_nil,encS]
     intro j hj
     simp only [mkS,mkT,mkM]
     by_cases hjl:j<fi.length
     · obtain ⟨it,ht⟩:=get_some (xs:=fi) (k:=j) hjl
       have hi1:=hf3 it (List.mem_of_getElem? ht)
       have hi2:=hwb it hi1
       have hi3:=g3 it
       have hi4:=hfl it
       have hi5:=evI_split (data:=data) (s:=cur) (ps:=ps) ht
       have hi6:=evI_snoc (data:=data) (s:=cur) (ps:=ps) ht
       have hz1:=so_len (evL (withF data it) cur ps).1
       have hz2:=so_len (evk++evI data cur ps (fi.take j))
       rw [wEs_append] at hz2
       repeat' (first|(refine s_draw 13 ?_ ?_;focus (decide +kernel))|(first|((first|apply qwd|apply qa1|apply qa2|apply qa3|apply qh1|apply qh2|apply qg1 rfl|apply qcd);(try intro K hk);focus (simp only [lvX33_34,mkT,go_sem,Nat.reduceEqDiff,Nat.reduceAdd,Nat.reduceLeDiff,Nat.reduceLT,Nat.reduceSub,Int.reduceToNat,↓reduceIte,reduceCtorEq,encPs_length,encP_mk,encS_eq,ex_St,St_eta,encF_mk,encFs_iff,hsl9,hgs,ht,Option.map_some,Int.toNat_natCast];first|exact rfl|((repeat refine ai ?_);intros;apply hk;clear hk K)))|apply qw8|apply qw1|refine qwc lvX33_34 ?_|apply qt1|apply qw5|apply qw2|apply qw9|apply qt2|apply qt3|apply qt4|apply qt5|apply qt6|apply qw3|apply qw4|apply qj1|apply qj2|apply qj3|apply qj4|apply qj5|apply qu1|apply qu2|(refine qj6 ?_ ?_<;>intro hc<;>(try simp only [hc])<;>(try simp only [decide_eq_true_eq,decide_eq_false_iff_not,Bool.not_eq_true',Bool.not_eq_false',Bool.not_eq_true,reduceCtorEq] at hc)<;>(try (exfalso;omega)))|(refine qt7 ?_ ?_;focus decide)|(refine qw7 ?_ ?_ ?_;(focus (decide +kernel));(focus (decide +kernel)))))
       refine s_again (j+1) ?_ ?_ ?_<;>(first|omega|(dsimp only;omega)|skip)
       simp [fits,fitsT,fitsM,upd_def,PV.nmb,nmbL,MB.nmb,List.getD_cons_zero,List.getD_cons_succ,hi6,cat_append,encS]
     · obtain rfl:j=fi.length:=by omega
       rw [List.take_length]
       repeat' (first|(refine s_draw 7 ?_ ?_;focus (decide +kernel))|(first|((first|apply qwd|apply qa1|apply qa2|apply qa3|apply qh1|apply qh2|apply qg1 rfl|apply qcd);(try intro K hk);focus (simp only [lvX33_34,mkT,go_sem,Nat.reduceEqDiff,Nat.reduceAdd,Nat.reduceLeDiff,Nat.reduceLT,Nat.reduceSub,Int.reduceToNat,↓reduceIte,reduceCtorEq,encPs_length,hget,hx,encP_mk,encS_eq,ex_St,St_eta,encF_mk,encFs_iff,hff,n1,hsl,hone,Int.toNat_natCast,hsl9];first|exact rfl|((repeat refine ai ?_);intros;apply hk;clear hk K)))|apply qw8|apply qw1|refine qwc lvX33_34 ?_|apply qt1|apply qw5|apply qw2|apply qw9|apply qt2|apply qt3|apply qt4|apply qt5|apply qt6|apply qw3|apply qw4|apply qj1|apply qj2|apply qj3|apply qj4|apply qj5|apply qu1|apply qu2|(refine qj6 ?_ ?_<;>intro hc<;>(try simp only [hc])<;>(try simp only [decide_eq_true_eq,decide_eq_false_iff_not,Bool.not_eq_true',Bool.not_eq_false',Bool.not_eq_true,reduceCtorEq] at hc)<;>(try (exfalso;omega)))|(refine qt7 ?_ ?_;focus decide)|(refine qw7 ?_ ?_ ?_;(focus (decide +kernel));(focus (decide +kernel)))))
       refine s_again (k+1) ?_ ?_ ?_<;>(first|omega|(dsimp only;omega)|skip)
       simp [fits,fitsT,fitsM,upd_def,PV.nmb,nmbL,MB.nmb,List.getD_cons_zero,List.getD_cons_succ,hs,hsn,cat_append,encS]
 · obtain rfl:k=xs.length:=by omega
   repeat' (first|((first|apply qwd|apply qa1|apply qa2|apply qa3|apply qh1|apply qh2|apply qg1 rfl|apply qcd);(try intro K hk);focus (simp only [lvX33_34,mkT,go_sem,Nat.reduceEqDiff,Nat.reduceAdd,Nat.reduceLeDiff,Nat.reduceLT,Nat.reduceSub,Int.reduceToNat,↓reduceIte,reduceCtorEq,encPs_length];first|exact rfl|((repeat refine ai ?_);intros;apply hk;clear hk K)))|apply qw8|apply qw1|refine qwc lvX33_34 ?_|apply qt1|apply qw5|apply qw2|apply qw9|apply qt2|apply qt3|apply qt4|apply qt5|apply qt6|apply qw3|apply qw4|apply qj1|apply qj2|apply qj3|apply qj4|apply qj5|apply qu1|apply qu2|(refine qj6 ?_ ?_<;>intro hc<;>(try simp only [hc])<;>(try simp only [decide_eq_true_eq,decide_eq_false_iff_not,Bool.not_eq_true',Bool.not_eq_false',Bool.not_eq_true,reduceCtorEq] at hc)<;>(try (exfalso;omega)))|(refine qt7 ?_ ?_;focus decide)|(refine qw7 ?_ ?_ ?_;(focus (decide +kernel));(focus (decide +kernel))))
   ((first|refine fin_ret ?_|refine fin_end ?_);simp only [go_sem,↓upd_def,Nat.reduceEqDiff,Nat.reduceAdd,↓reduceIte,reduceCtorEq])
   rw [List.take_length] at *
   exact hK
@[go_sem] def sfQ:PC:=rel (α:=St×List PartD×List FieldD) (fun x=>[.agg (encS x.1),.seq (encPs x.2.1),.seq (encFs x.2.2)]) (fun x=>wtL x.2.1≤1073741824∧stV x.1=true∧(∃ d b,gdL d b x.2.1=true∧x.2.2.length+d≤900)∧dBd x.2.2∧(chkL x.1 x.2.1).mode≠15∧wEs (evL x.2.2 x.1 x.2.1).1≤109951162777600) (fun x=> .str (cat outS (evL x.2.2 x.1 x.2.1).1))
theorem sf_sc:PureOk Tryz.prog 34 sfQ:=rel_all (fun x:St×List PartD×List FieldD=>wtL x.2.1) sf_s
theorem fs_s:PureOk Tryz.prog 8 fsC:=by
 refine pure_rel 2 (tab_cons sf_sc (tab_cons ts_s (tab_cons dv_s tab_nil))) mixed [.tmp 4,.tmp 5] Tryz.func8 rfl rfl (by kernel_rfl) (by kernel_rfl) (fun _=>rfl) (by kernel_rfl) ?_
 rintro ⟨xs,data⟩ K ⟨hb,hok⟩ hK
 dsimp only at *
 unfold entry
 unfold fillM at hK
 cases hp:safeM xs
 · rw [hp] at hK
   simp only [Bool.false_eq_true,false_and,if_false,Option.getD_none,Option.isSome_none] at hK
   repeat' (first|((first|apply qwd|apply qa1|apply qa2|apply qa3|apply qh1|apply qh2|apply qg1 rfl|apply qcd);(try intro K hk);focus (simp only [lvX33_8,mkT,go_sem,Nat.reduceEqDiff,Nat.reduceAdd,Nat.reduceLeDiff,Nat.reduceLT,Nat.reduceSub,Int.reduceToNat,↓reduceIte,reduceCtorEq,hp,encFs_iff,Bool.not_false];first|exact rfl|((repeat refine ai ?_);intros;apply hk;clear hk K)))|apply qw8|apply qw1|refine qwc lvX33_8 ?_|apply qt1|apply qw5|apply qw2|apply qw9|apply qt2|apply qt3|apply qt4|apply qt5|apply qt6|apply qw3|apply qw4|apply qj1|apply qj2|apply qj3|apply qj4|apply qj5|apply qu1|apply qu2|(refine qj6 ?_ ?_<;>intro hc<;>(try simp only [hc])<;>(try simp only [decide_eq_true_eq,decide_eq_false_iff_not,Bool.not_eq_true',Bool.not_eq_false',Bool.not_eq_true,reduceCtorEq] at hc)<;>(try (exfalso;omega)))|(refine qt7 ?_ ?_;focus decide)|(refine qw7 ?_ ?_ ?_;(focus (decide +kernel));(focus (decide +kernel))))
   ((first|refine fin_ret ?_|refine fin_end ?_);simp only [go_sem,↓upd_def,Nat.reduceEqDiff,Nat.reduceAdd,↓reduceIte,reduceCtorEq])
   exact hK
 cases hd:dataB data
 · rw [hd] at hK
   simp only [Bool.false_eq_true,and_false,if_false,Option.getD_none,Option.isSome_none] at hK
   repeat' (first|((first|apply qwd|apply qa1|apply qa2|apply qa3|apply qh1|apply qh2|apply qg1 rfl|apply qcd);(try intro K hk);focus (simp only [lvX33_8,mkT,go_sem,Nat.reduceEqDiff,Nat.reduceAdd,Nat.reduceLeDiff,Nat.reduceLT,Nat.reduceSub,Int.reduceToNat,↓reduceIte,reduceCtorEq,hp,hd,encFs_iff,Bool.not_false,Bool.not_true];first|exact rfl|((repeat refine ai ?_);intros;apply hk;clear hk K)))|apply qw8|apply qw1|refine qwc lvX33_8 ?_|apply qt1|apply qw5|apply qw2|apply qw9|apply qt2|apply qt3|apply qt4|apply qt5|apply qt6|apply qw3|apply qw4|apply qj1|apply qj2|apply qj3|apply qj4|apply qj5|apply qu1|apply qu2|(refine qj6 ?_ ?_<;>intro hc<;>(try simp only [hc])<;>(try simp only [decide_eq_true_eq,decide_eq_false_iff_not,Bool.not_eq_true',Bool.not_eq_false',Bool.not_eq_true,reduceCtorEq] at hc)<;>(try (exfalso;omega)))|(refine qt7 ?_ ?_;focus decide)|(refine qw7 ?_ ?_ ?_;(focus (decide +kernel));(focus (decide +kernel))))
   ((first|refine fin_ret ?_|refine fin_end ?_);simp only [go_sem,↓upd_def,Nat.reduceEqDiff,Nat.reduceAdd,↓reduceIte,reduceCtorEq])
   exact hK
 rw [hp,hd] at hK
 simp only [and_self,if_true,Option.getD_some,Option.isSome_some] at hK
 obtain ⟨g0,g1,g9,g8⟩:=safe_parts hp
 have g2:=dataB_bd hd
 have g3:=dataB_len hd
 have g4:=plW_bd g1 g2 hb
 have g5: ∃ d b,gdL d b xs=true∧data.length+d≤900:=⟨_,_,g1,by omega⟩
 have g7:=stV_st0
 unfold plW at g4
 repeat' (first|((first|apply qwd|apply qa1|apply qa2|apply qa3|apply qh1|apply qh2|apply qg1 rfl|apply qcd);(try intro K hk);focus (simp only [lvX33_8,mkT,go_sem,Nat.reduceEqDiff,Nat.reduceAdd,Nat.reduceLeDiff,Nat.reduceLT,Nat.reduceSub,Int.reduceToNat,↓reduceIte,reduceCtorEq,encS_st0,encS_eq,ex_St,St_eta,hp,hd,encFs_iff,Bool.not_true];first|exact rfl|((repeat refine ai ?_);intros;apply hk;clear hk K)))|apply qw8|apply qw1|refine qwc lvX33_8 ?_|apply qt1|apply qw5|apply qw2|apply qw9|apply qt2|apply qt3|apply qt4|apply qt5|apply qt6|apply qw3|apply qw4|apply qj1|apply qj2|apply qj3|apply qj4|apply qj5|apply qu1|apply qu2|(refine qj6 ?_ ?_<;>intro hc<;>(try simp only [hc])<;>(try simp only [decide_eq_true_eq,decide_eq_false_iff_not,Bool.not_eq_true',Bool.not_eq_false',Bool.not_eq_true,reduceCtorEq] at hc)<;>(try (exfalso;omega)))|(refine qt7 ?_ ?_;focus decide)|(refine qw7 ?_ ?_ ?_;(focus (decide +kernel));(focus (decide +kernel))))
 ((first|refine fin_ret ?_|refine fin_end ?_);simp only [go_sem,↓upd_def,Nat.reduceEqDiff,Nat.reduceAdd,↓reduceIte,reduceCtorEq])
 exact hK
end Go.Proofs.YtnbjogilidfkdaaGreat
