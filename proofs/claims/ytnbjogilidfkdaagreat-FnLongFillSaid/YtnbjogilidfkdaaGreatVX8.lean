/- Contracts: the number of parts, their depth. -/
import Derived.Test.YtnbjogilidfkdaaGreatVX1
import Derived.Test.YtnbjogilidfkdaaGreatVFP
import Derived.Test.YtnbjogilidfkdaaGreatVF12

namespace Go.Proofs.YtnbjogilidfkdaaGreat
attribute [local irreducible] awp arun acalm FinP Fin AX.then AX.inBlock Again aG gsel amix amixN amixC aop aopc aopd cutK
attribute [local go_sem] aBSliceD aSlice aSliceC boundOf aMk aCall aCallC aLenL aLen aPick_t aPick_f aNil aAlloc aBox aBuild bldPV aBSlice bsPV aApp newsOf destOf drp aConvX aConv aConvInt aLoad cellsAt aStore cellsPV setAt aFld aField aIdx aIndex aUn aBin' aBin aMax aExtract pvOf PV.isCell nmbL PV.nmb List.map_cons List.map_nil List.all_cons List.all_nil Bool.and_true Bool.true_and if_true if_false List.getD_cons_zero List.getD_cons_succ List.getD_nil Option.isSome_some true_and and_true and_self eq_self true_or or_true List.drop_zero List.drop_succ_cons List.drop_nil List.take_zero List.take_succ_cons List.take_nil List.length_cons List.length_nil List.length_map Option.getD_some Option.getD_none List.nil_append List.cons_append List.append_nil Option.some.injEq exists_eq_left' List.getElem?_cons_zero List.getElem?_cons_succ Int.toNat_natCast Int.natCast_inj toNat_succ Nat.zero_add res res1 resC owns owns1 ownsC List.flatMap_cons List.flatMap_nil List.flatten_cons List.flatten_nil List.mem_cons List.not_mem_nil or_false false_or forall_eq forall_eq_or_imp isFro frz frz1 pureC tabA isBld List.cons.injEq PV.seq.injEq PV.int.injEq PV.str.injEq PV.bool.injEq PV.agg.injEq inR tab Γof aRes packR Option.map_some Option.map_none rel Prod.exists exists_and_left exists_eq_left and_assoc beq_self_eq_true Bool.not_true Bool.not_false decide_true decide_false List.set_cons_zero List.set_cons_succ rst_nil rst_cons
attribute [local go_sem ↓] evT upd_def aop aopc aopd
set_option maxRecDepth 100000
set_option linter.unusedVariables false
set_option linter.unusedSimpArgs false
open Go.RowKit
@[go_sem] def parC (f:List PartD→PV) (n:Nat):PC:=rel (α:=List PartD) (fun x=>[.seq (encPs x)]) (fun x=>wtL x<n∧wtL x≤1099511627776) f
@[go_sem] def parQ (f:List PartD→PV):PC:=rel (α:=List PartD) (fun x=>[.seq (encPs x)]) (fun x=>wtL x≤1099511627776) f
theorem par_all {f:FuncId} {g:List PartD→PV} (h: ∀ n,PureOk Tryz.prog f (parC g n)):PureOk Tryz.prog f (parQ g):=rel_all (fun x=>wtL x) h
set_option maxHeartbeats 4000000 in
theorem cnt_i: ∀ n,PureOk Tryz.prog 95 (parC (fun x=> .int .i64 (cntL x)) n):=by
 intro n
 induction n with
 | zero=>exact never_rel Tryz.func95 (by kernel_rfl) (by kernel_rfl) (fun x h=>by omega)
 | succ n ih =>
 refine pure_rel 1 (tab_cons ih tab_nil) mixed [.tmp 2] Tryz.func95 rfl rfl (by kernel_rfl) (by kernel_rfl) (fun _=>rfl) (by kernel_rfl) ?_
 rintro xs K ⟨hn,hb⟩ hK
 clear ih
 have hlw:=len_le_wtL xs
 unfold entry
 repeat' (first|((first|apply qa1);(try intro K hk);focus (simp only [go_sem,↓reduceIte,reduceCtorEq];first|exact rfl|((repeat refine ai ?_);intros;apply hk;clear hk K)))|apply qw8|apply qw1|apply qw6|apply qt1|apply qw5)
 refine s_loop (ι:=Nat) (fun k=>[(3,.int .i64 (cntL (xs.take k))),(6,.seq (encPs xs)),(7,.int .i64 xs.length),(8,.int .i64 k)]) (fun _=>[]) 0 (fun k=>k≤xs.length) (fun k=>xs.length - k) 0 (by omega) (by omega) ?_ ?_
 · simp [fits,fitsT,fitsM,upd_def,PV.nmb,cntL_nil]
 intro k hk
 simp only [mkS,mkT,mkM]
 repeat' (first|((first|apply qa1|apply qcd);(try intro K hk);focus (simp only [go_sem,Nat.reduceEqDiff,↓reduceIte];first|exact rfl|((repeat refine ai ?_);intros;apply hk;clear hk K)))|apply qw8|apply qw1|apply qw6|apply qt1|apply qw5|apply qw2|apply qt2|apply qt5|apply qw3|apply qw4|apply qj1|apply qj4|(refine qj6 ?_ ?_<;>intro hc<;>(try simp only [hc])<;>(try simp only [decide_eq_true_eq,decide_eq_false_iff_not] at hc)<;>(try (exfalso;omega))))
 · obtain ⟨⟨kd,t,nm,ps,os⟩,hx⟩:=get_some (xs:=xs) (k:=k) (by omega)
   have htk:=take_snoc' hx
   have ws:=wtL_split hx
   rw [wtP_mk] at ws
   have hget:=encPs_get xs
   have c1:=cntL_le ps
   have c2:=cntL_le os
   have c3:=cntL_le (xs.take k)
   repeat' (first|((first|apply qa1|apply qa2|apply qa3);(try intro K hk);focus (simp only [go_sem,Nat.reduceEqDiff,Nat.reduceAdd,Nat.reduceLeDiff,↓reduceIte,reduceCtorEq,hget,hx,encP_mk];first|exact rfl|((repeat refine ai ?_);intros;apply hk;clear hk K)))|apply qw8|apply qw6|apply qt1|apply qw9|apply qt4|(refine qw7 ?_ ?_ ?_;(focus (decide +kernel));(focus (decide +kernel))))
   refine s_again (k+1) ?_ ?_ ?_<;>(first|omega|(dsimp only;omega)|skip)
   simp [fits,fitsT,fitsM,upd_def,PV.nmb,htk,cntL_append,cntL_one,cntP_mk]
   omega
 · obtain rfl:k=xs.length:=by omega
   ((first|refine fin_ret ?_|refine fin_end ?_);simp only [go_sem,↓upd_def,↓reduceIte])
   rw [List.take_length]
   exact hK
theorem cnt_ic:PureOk Tryz.prog 95 (parQ (fun x=> .int .i64 (cntL x))):=par_all cnt_i
set_option maxHeartbeats 4000000 in
theorem cnt_s: ∀ n,PureOk Tryz.prog 127 (parC (fun x=> .int .i64 (cntL x)) n):=by
 intro n
 induction n with
 | zero=>exact never_rel Tryz.func127 (by kernel_rfl) (by kernel_rfl) (fun x h=>by omega)
 | succ n ih =>
 refine pure_rel 1 (tab_cons ih tab_nil) mixed [.tmp 2] Tryz.func127 rfl rfl (by kernel_rfl) (by kernel_rfl) (fun _=>rfl) (by kernel_rfl) ?_
 rintro xs K ⟨hn,hb⟩ hK
 clear ih
 have hlw:=len_le_wtL xs
 unfold entry
 repeat' (first|((first|apply qa1);(try intro K hk);focus (simp only [go_sem,↓reduceIte,reduceCtorEq];first|exact rfl|((repeat refine ai ?_);intros;apply hk;clear hk K)))|apply qw8|apply qw1|apply qw6|apply qt1|apply qw5)
 refine s_loop (ι:=Nat) (fun k=>[(0,.seq (encPs xs)),(3,.int .i64 (cntL (xs.take k)+(xs.length - k))),(4,.int .i64 k)]) (fun _=>[]) 0 (fun k=>k≤xs.length) (fun k=>xs.length - k) 0 (by omega) (by omega) ?_ ?_
 · simp [fits,fitsT,fitsM,upd_def,PV.nmb,cntL_nil]
 intro k hk
 simp only [mkS,mkT,mkM]
 repeat' (first|((first|apply qa1|apply qa3|apply qcd);(try intro K hk);focus (simp only [go_sem,Nat.reduceEqDiff,↓reduceIte,reduceCtorEq];first|exact rfl|((repeat refine ai ?_);intros;apply hk;clear hk K)))|apply qw8|apply qw1|apply qw6|apply qt1|apply qw5|apply qw2|apply qt2|apply qt5|apply qw3|apply qw4|apply qj1|apply qj4|(refine qj6 ?_ ?_<;>intro hc<;>(try simp only [hc])<;>(try simp only [decide_eq_true_eq,decide_eq_false_iff_not] at hc)<;>(try (exfalso;omega)))|(refine qw7 ?_ ?_ ?_;(focus (decide +kernel));(focus (decide +kernel))))
 · obtain ⟨⟨kd,t,nm,ps,os⟩,hx⟩:=get_some (xs:=xs) (k:=k) (by omega)
   have htk:=take_snoc' hx
   have ws:=wtL_split hx
   rw [wtP_mk] at ws
   have hget:=encPs_get xs
   have c1:=cntL_le ps
   have c2:=cntL_le os
   have c3:=cntL_le (xs.take k)
   repeat' (first|((first|apply qa1|apply qa3);(try intro K hk);focus (simp only [go_sem,Nat.reduceEqDiff,Nat.reduceAdd,↓reduceIte,reduceCtorEq,hget,hx,encP_mk];first|exact rfl|((repeat refine ai ?_);intros;apply hk;clear hk K)))|apply qw8|apply qw6|apply qt1|apply qw9|apply qt4)
   refine s_again (k+1) ?_ ?_ ?_<;>(first|omega|(dsimp only;omega)|skip)
   simp [fits,fitsT,fitsM,upd_def,PV.nmb,htk,cntL_append,cntL_one,cntP_mk]
   omega
 · obtain rfl:k=xs.length:=by omega
   ((first|refine fin_ret ?_|refine fin_end ?_);simp only [go_sem,↓upd_def,↓reduceIte])
   rw [List.take_length,Int.sub_self,Int.add_zero] at *
   exact hK
theorem cnt_sc:PureOk Tryz.prog 127 (parQ (fun x=> .int .i64 (cntL x))):=par_all cnt_s
end Go.Proofs.YtnbjogilidfkdaaGreat

/- Contracts: drawn parts. -/
namespace Go.Proofs.YtnbjogilidfkdaaGreat
attribute [local irreducible] awp arun acalm FinP Fin AX.then AX.inBlock Again aG gsel amix amixN amixC aop aopc aopd cutK
attribute [local go_sem] aBSliceD aSlice aSliceC boundOf aMk aCall aCallC aLenL aLen aPick_t aPick_f aNil aAlloc aBox aBuild bldPV aBSlice bsPV aApp newsOf destOf drp aConvX aConv aConvInt aLoad cellsAt aStore cellsPV setAt aFld aField aIdx aIndex aUn aBin' aBin aMax aExtract pvOf PV.isCell nmbL PV.nmb List.map_cons List.map_nil List.all_cons List.all_nil Bool.and_true Bool.true_and if_true if_false List.getD_cons_zero List.getD_cons_succ List.getD_nil Option.isSome_some true_and and_true and_self eq_self true_or or_true List.drop_zero List.drop_succ_cons List.drop_nil List.take_zero List.take_succ_cons List.take_nil List.length_cons List.length_nil List.length_map Option.getD_some Option.getD_none List.nil_append List.cons_append List.append_nil Option.some.injEq exists_eq_left' List.getElem?_cons_zero List.getElem?_cons_succ Int.toNat_natCast Int.natCast_inj toNat_succ Nat.zero_add res res1 resC owns owns1 ownsC List.flatMap_cons List.flatMap_nil List.flatten_cons List.flatten_nil List.mem_cons List.not_mem_nil or_false false_or forall_eq forall_eq_or_imp isFro frz frz1 pureC tabA isBld List.cons.injEq PV.seq.injEq PV.int.injEq PV.str.injEq PV.bool.injEq PV.agg.injEq inR tab Γof aRes packR Option.map_some Option.map_none rel Prod.exists exists_and_left exists_eq_left and_assoc beq_self_eq_true Bool.not_true Bool.not_false decide_true decide_false List.set_cons_zero List.set_cons_succ rst_nil rst_cons
attribute [local go_sem ↓] evT upd_def aop aopc aopd
set_option maxRecDepth 100000
set_option linter.unusedVariables false
set_option linter.unusedSimpArgs false
open Go.RowKit
def lv89:Nat→List Nat
 | 0=>[0,1]
 | 1=>[0,1,5]
 | 2=>[0,1,5,6]
 | 3=>[0,1,5,6,14]
 | 4=>[0,1,5,6]
 | 5=>[0,1,5,6,7]
 | 6=>[0,1,5,6,7,21]
 | 7=>[0,1,5,6,23]
 | 8=>[0,1,5,6]
 | 9=>[0,1,5,6,7,21,36]
 | 10=>[0,1,5,6]
 | 11=>[0,1,5,6,7,21,40]
 | 12=>[0,1,5,6]
 | 13=>[0,1,5,6]
 | 14=>[0,1,5,6,7,21,49]
 | 15=>[0,1,5,6]
 | 16=>[0,1,5,6]
 | 17=>[0,1,5,6,7,21,58]
 | 18=>[0,1,5,6]
 | 19=>[0,1,5,6]
 | 20=>[0,1,5,6,7,21,67]
 | 21=>[0,1,5,6]
 | 22=>[0,1,5,6]
 | 23=>[0,1,5,6,7,21,76]
 | 24=>[0,1,5,6]
 | 25=>[0,1,5,6]
 | 26=>[0,1,5,6,7,21,85]
 | 27=>[0,1,5,6]
 | 28=>[0,1,5,6,91]
 | 29=>[0,1,5,6,94]
 | 30=>[0,1,5,6,8]
 | 31=>[0,1,5,6,8,104]
 | 32=>[0,1,5,6,8]
 | 33=>[0,1,5,6]
 | 34=>[4]
 | _=>[]
def lv92:Nat→List Nat
 | 0=>[0,1]
 | 1=>[0,1,5]
 | 2=>[0,1,5,19]
 | 3=>[1,5,6]
 | 4=>[6]
 | 5=>[4]
 | 6=>[4]
 | _=>[]
def lv121:Nat→List Nat
 | 0=>[0,1]
 | 1=>[0,1,5]
 | 2=>[0,1,5,9]
 | 3=>[0,1,5]
 | 4=>[0,1,5,17]
 | 5=>[0,1,5]
 | 6=>[0,1,5]
 | 7=>[4]
 | _=>[]
theorem enc_nil {ys:List PartD}:[]=encPs ys↔[]=ys:=by
 rw [show ([]:List (List PV))=encPs [] by simp [encPs],encPs_iff]
theorem enc_snoc {xs ys:List PartD} {k:Int} {t n:Bs} {ps os:List PartD}:encPs xs++[[.int .i64 k,.str t,.str n,.seq (encPs ps),.seq (encPs os)]]=encPs ys↔xs++[.mk k t n ps os]=ys:=by
 rw [← encP_mk,← encPs_one,← encPs_append,encPs_iff]
theorem enc_snoc0 {xs ys:List PartD} {k:Int} {t n:Bs}:encPs xs++[[.int .i64 k,.str t,.str n,.seq [],.seq []]]=encPs ys↔xs++[.mk k t n [] []]=ys:=by
 have:=enc_snoc (xs:=xs) (ys:=ys) (k:=k) (t:=t) (n:=n) (ps:=[]) (os:=[])
 rwa [encPs_nil] at this
theorem enc_snoc1 {xs ys:List PartD} {k:Int} {t n:Bs} {ps:List PartD}:encPs xs++[[.int .i64 k,.str t,.str n,.seq (encPs ps),.seq []]]=encPs ys↔xs++[.mk k t n ps []]=ys:=by
 have:=enc_snoc (xs:=xs) (ys:=ys) (k:=k) (t:=t) (n:=n) (ps:=ps) (os:=[])
 rwa [encPs_nil] at this
theorem encPs_set (xs:List PartD) (k:Nat) (y:PartD):(encPs xs).set k (encP y)=encPs (xs.set k y):=by
 rw [encPs_map,encPs_map,List.map_set]
theorem le_ex {a b:Int} (h:a≤b): ∃ c,c=b∧a≤c:=⟨b,rfl,h⟩
theorem wtL_set {xs:List PartD} {k:Nat} {x y:PartD} (h:xs[k]?=some x):wtL (xs.set k y)+wtP x=wtL xs+wtP y:=by
 have h1:=wtL_split h
 obtain ⟨hk,_⟩:=List.getElem?_eq_some_iff.1 h
 have e:xs.set k y=xs.take k++[y]++xs.drop (k+1):=by
  rw [List.set_eq_take_append_cons_drop,if_pos hk];simp
 rw [e,wtL_append,wtL_append,wtL_one]
 omega
@[go_sem] def addC0:AC:=locX 79 5 (α:=List PartD×Bs) (fun x=>[.str x.2]) (fun x=> .row 79 5 (encPs x.1)) (fun x=>wtL x.1≤1000000∧x.2.length≤1000) (fun x es=> ∃ ys,es=encPs ys∧wtL ys≤wtL x.1+x.2.length+1)
set_option maxHeartbeats 8000000 in
theorem add_ok0:ACok Tryz.prog 92 addC0:=by
 refine locX_ok 2 (tabA_nil (Γof_ok tab_nil)) tab_nil mixed [.tmp 4] Tryz.func92 rfl rfl (by kernel_rfl) (by kernel_rfl) (fun _=>rfl) (by kernel_rfl) (fun x=>by simp [nmbL,PV.nmb]) (fun x=>by simp [go_sem,MB.nmb]) ?_
 rintro ⟨xs,t9⟩ K ⟨hw,ht⟩ hK
 dsimp only at *
 have hlw:=len_le_wtL xs
 have ha5:=encPs_all xs
 have h00:decide ((0:Int)≤((0:Nat):Int) - 1)=false:=by decide
 by_cases h0:xs=[]
 · subst h0
   unfold entry
   simp only [mkM,encPs_nil] at *
   repeat' (first|((first|apply qwd|apply qa1|apply qg1 rfl|apply qcd);(try intro K hk);focus (simp only [lv92,mkT,go_sem,Nat.reduceEqDiff,Nat.reduceAdd,Nat.reduceLeDiff,Nat.reduceLT,↓reduceIte,reduceCtorEq,h00];first|exact rfl|((repeat refine ai ?_);intros;apply hk;clear hk K)))|apply qw1|refine qwc lv92 ?_|apply qt1|apply qw2|apply qw4|apply qj4|apply qu1)
   ((first|refine fin_V ?_|refine fin_Ve ?_|refine fin_O ?_|refine fin_Oe ?_|refine fin_X ?_|refine fin_Xe ?_|refine fin_B ?_|refine fin_Be ?_);simp only [go_sem,PV.own.injEq,MB.row.injEq,↓upd_def,↓reduceIte])
   have e:=(enc_snoc0 (xs:=[]) (k:=1) (t:=t9) (n:=[]) (ys:=[.mk 1 t9 [] [] []])).2 rfl
   simp only [encPs_nil,List.nil_append] at e
   exact hK _ ⟨_,e,by simp [wtL_one,wtP_mk,wtL_nil];omega⟩
 · have hlp:0<xs.length:=List.length_pos_iff.2 h0
   obtain ⟨⟨kd,t,nm,ps,os⟩,hx⟩:=get_some (xs:=xs) (k:=xs.length - 1) (by omega)
   have hget:=encPs_get xs
   have ws:=wtL_split hx
   rw [wtP_mk] at ws
   have hpr:((xs.length:Int) - 1).toNat=xs.length - 1:=by omega
   unfold entry
   simp only [mkM] at *
   repeat' (first|((first|apply qwd|apply qa1|apply qa2|apply qh1|apply qg1 rfl|apply qcd);(try intro K hk);focus (simp only [lv92,mkT,go_sem,Nat.reduceEqDiff,Nat.reduceAdd,Nat.reduceLeDiff,Nat.reduceLT,↓reduceIte,reduceCtorEq,hpr,hget,hx,encP_mk];first|exact rfl|((repeat refine ai ?_);intros;apply hk;clear hk K)))|apply qw1|refine qwc lv92 ?_|apply qt1|apply qw2|apply qt3|apply qw4|apply qj1|apply qj4|apply qu1|(refine qj6 ?_ ?_<;>intro hc<;>(try simp only [hc])<;>(try simp only [decide_eq_true_eq,decide_eq_false_iff_not] at hc)<;>(try (exfalso;omega))))
   · ((first|refine fin_V ?_|refine fin_Ve ?_|refine fin_O ?_|refine fin_Oe ?_|refine fin_X ?_|refine fin_Xe ?_|refine fin_B ?_|refine fin_Be ?_);simp only [go_sem,PV.own.injEq,MB.row.injEq,↓upd_def,↓reduceIte])
     refine hK _ ⟨xs.set (xs.length - 1) (.mk kd (t++t9) nm ps os),by rw [← encPs_set,encP_mk],?_⟩
     have:=wtL_set (y:= .mk kd (t++t9) nm ps os) hx
     simp only [wtP_mk,List.length_append] at this
     omega
   · ((first|refine fin_V ?_|refine fin_Ve ?_|refine fin_O ?_|refine fin_Oe ?_|refine fin_X ?_|refine fin_Xe ?_|refine fin_B ?_|refine fin_Be ?_);simp only [go_sem,PV.own.injEq,MB.row.injEq,↓upd_def,↓reduceIte])
     refine hK _ ⟨_,enc_snoc0.2 rfl,?_⟩
     simp only [wtL_append,wtL_one,wtP_mk,wtL_nil,List.length_nil]
     omega
@[go_sem] def addC:AC:=fun args mem n K=>match args with
 | [.own i,.str t]=>(match mem i with
   | some (.row e s es)=>e=79∧s=5∧(∃ xs,es=encPs xs∧wtL xs≤1000000∧t.length≤1000∧ ∀ ys,wtL ys≤wtL xs+t.length+1→ys.length≤wtL xs+t.length+1→K (.own n) (upd (upd mem i none) n (some (.row 79 5 (encPs ys)))) (n+1))
   | _=>False)
 | _=>False
theorem add_ok:ACok Tryz.prog 92 addC:=add_ok0.mono fun args mem n K h=>by
 unfold addC at h
 split at h
 · rename_i i t
   split at h
   · rename_i e s es hm
     obtain ⟨rfl,rfl,xs,rfl,h1,h2,hK⟩:=h
     refine ⟨(xs,t),i,rfl,⟨h1,h2⟩,hm,?_⟩
     rintro es ⟨ys,rfl,h3⟩
     exact hK ys h3 (Nat.le_trans (len_le_wtL ys) h3)
   · exact h.elim
 · exact h.elim
@[go_sem] def putC0:AC:=locX 79 5 (α:=List PartD×List PartD) (fun x=>[.seq (encPs x.2)]) (fun x=> .row 79 5 (encPs x.1)) (fun x=>wtL x.1≤100000∧wtL x.2≤100000∧ ∀ k t nm ps os,(.mk k t nm ps os) ∈ x.2→t.length≤1000) (fun x es=> ∃ ys,es=encPs ys∧wtL ys≤wtL x.1+2 * wtL x.2)
set_option maxHeartbeats 8000000 in
theorem put_ok0:ACok Tryz.prog 121 putC0:=by
 refine locX_ok 2 (tabA_cons add_ok (tabA_nil (Γof_ok tab_nil))) tab_nil mixed [.tmp 4] Tryz.func121 rfl rfl (by kernel_rfl) (by kernel_rfl) (fun _=>rfl) (by kernel_rfl) (fun x=>by simp [nmbL,PV.nmb]) (fun x=>by simp [go_sem,MB.nmb]) ?_
 rintro ⟨xs,zs⟩ K ⟨hw,hz,hz2⟩ hK
 dsimp only at *
 have hlw:=len_le_wtL zs
 have ha5:=encPs_all xs
 unfold entry
 simp only [mkM] at *
 repeat' (first|((first|apply qwd|apply qa1);(try intro K hk);focus (simp only [lv121,mkT,go_sem,Nat.reduceEqDiff,↓reduceIte,reduceCtorEq];first|exact rfl|((repeat refine ai ?_);intros;apply hk;clear hk K)))|apply qw1|refine qwc lv121 ?_|apply qt1|apply qw5)
 refine s_loop (ι:=Bool×Nat×List PartD) (fun i=>[(0,.own (if i.1=true then 1 else 0)),(1,.seq (encPs zs)),(5,.int .i64 i.2.1)]) (fun i=>[(if i.1=true then 1 else 0,.row 79 5 (encPs i.2.2))]) 2 (fun i=>i.2.1≤zs.length∧wtL i.2.2≤wtL xs+2 * wtL (zs.take i.2.1)) (fun i=>zs.length - i.2.1) (false,0,xs) (by omega) ⟨by simp,by simp [wtL_nil]⟩ ?_ ?_
 · simp [fits,fitsT,fitsM,upd_def,PV.nmb,MB.nmb]
 rintro ⟨fl,k,ys⟩ ⟨hk,hy⟩
 dsimp only at *
 cases fl
 · simp only [mkS,mkT,mkM,Bool.false_eq_true,if_false]
   repeat' (first|((first|apply qwd|apply qa1|apply qcd);(try intro K hk);focus (simp only [lv121,mkT,go_sem,Nat.reduceEqDiff,↓reduceIte,reduceCtorEq];first|exact rfl|((repeat refine ai ?_);intros;apply hk;clear hk K)))|apply qw1|refine qwc lv121 ?_|apply qt1|apply qw5|apply qw2|apply qt2|apply qt5|apply qw3|apply qw4|apply qj1|apply qj4|(refine qj6 ?_ ?_<;>intro hc<;>(try simp only [hc])<;>(try simp only [decide_eq_true_eq,decide_eq_false_iff_not] at hc)<;>(try (exfalso;omega))))
   · obtain ⟨⟨kd,t,nm,ps,os⟩,hx⟩:=get_some (xs:=zs) (k:=k) (by omega)
     have htk:=take_snoc' hx
     have ws:=wtL_split hx
     rw [wtP_mk] at ws
     have hget:=encPs_get zs
     have ht1:t.length≤1000:=hz2 _ _ _ _ _ (List.mem_of_getElem? hx)
     have wd:=len_le_wtL (zs.drop (k+1))
     have e2:wtL (zs.take (k+1))=wtL (zs.take k)+(1+(t.length+nm.length+wtL ps+wtL os)):=by rw [htk,wtL_append,wtL_one,wtP_mk]
     have hya:=encPs_all ys
     have hyl:=len_le_wtL ys
     have hpl:=encP_length (.mk kd t nm ps os)
     rw [encP_mk] at hpl
     repeat' (first|((first|apply qwd|apply qa1|apply qcd);(try intro K hk);focus (simp only [lv121,mkT,go_sem,Nat.reduceEqDiff,Nat.reduceAdd,Nat.reduceLeDiff,↓reduceIte,reduceCtorEq,hget,hx,encP_mk,exl,encPs_iff];first|exact rfl|((repeat refine ai ?_);intros;apply hk;clear hk K)))|refine qwc lv121 ?_|apply qt1|apply qt4|apply qj1|apply qj4|(refine qj6 ?_ ?_<;>intro hc<;>(try simp only [hc])<;>(try simp only [decide_eq_true_eq,decide_eq_false_iff_not] at hc)<;>(try (exfalso;omega))))
     · rename_i y9 hy9 hy9'
       refine s_againR ((true,k+1,y9)) (fun i=>if i=1 then 2 else i) ?_ ?_ ?_ ?_ ?_ ?_<;>(first|omega|(dsimp only;omega)|(intro i hi;(try dsimp only);(repeat' split)<;>omega)|(intro i j hi hj h;(try dsimp only at h);(repeat' split at h)<;>omega)|skip)
       · simp [fitsTR,PV.ren,upd_def,PV.nmb]
       · simp [fitsMR,MB.ren,upd_def,MB.nmb]
     · refine s_againR ((true,k+1,ys++[.mk kd t nm ps os])) (fun i=>if i=1 then 3 else i) ?_ ?_ ?_ ?_ ?_ ?_<;>(first|omega|(dsimp only;omega)|(intro i hi;(try dsimp only);(repeat' split)<;>omega)|(intro i j hi hj h;(try dsimp only at h);(repeat' split at h)<;>omega)|skip)
       · exact ⟨by dsimp only;omega,by dsimp only;rw [wtL_append,wtL_one,wtP_mk];omega⟩
       · simp [fitsTR,PV.ren,upd_def,PV.nmb]
       · simp [fitsMR,MB.ren,upd_def,MB.nmb,enc_snoc]
   · obtain rfl:k=zs.length:=by omega
     ((first|refine fin_V ?_|refine fin_Ve ?_|refine fin_O ?_|refine fin_Oe ?_|refine fin_X ?_|refine fin_Xe ?_|refine fin_B ?_|refine fin_Be ?_);simp only [go_sem,PV.own.injEq,MB.row.injEq,↓upd_def,↓reduceIte])
     rw [List.take_length] at hy
     exact hK _ ⟨_,rfl,hy⟩
 · simp only [mkS,mkT,mkM,if_true]
   repeat' (first|((first|apply qwd|apply qa1|apply qcd);(try intro K hk);focus (simp only [lv121,mkT,go_sem,Nat.reduceEqDiff,↓reduceIte,reduceCtorEq];first|exact rfl|((repeat refine ai ?_);intros;apply hk;clear hk K)))|apply qw1|refine qwc lv121 ?_|apply qt1|apply qw5|apply qw2|apply qt2|apply qt5|apply qw3|apply qw4|apply qj1|apply qj4|(refine qj6 ?_ ?_<;>intro hc<;>(try simp only [hc])<;>(try simp only [decide_eq_true_eq,decide_eq_false_iff_not] at hc)<;>(try (exfalso;omega))))
   · obtain ⟨⟨kd,t,nm,ps,os⟩,hx⟩:=get_some (xs:=zs) (k:=k) (by omega)
     have htk:=take_snoc' hx
     have ws:=wtL_split hx
     rw [wtP_mk] at ws
     have hget:=encPs_get zs
     have ht1:t.length≤1000:=hz2 _ _ _ _ _ (List.mem_of_getElem? hx)
     have wd:=len_le_wtL (zs.drop (k+1))
     have e2:wtL (zs.take (k+1))=wtL (zs.take k)+(1+(t.length+nm.length+wtL ps+wtL os)):=by rw [htk,wtL_append,wtL_one,wtP_mk]
     have hya:=encPs_all ys
     have hyl:=len_le_wtL ys
     have hpl:=encP_length (.mk kd t nm ps os)
     rw [encP_mk] at hpl
     repeat' (first|((first|apply qwd|apply qa1|apply qcd);(try intro K hk);focus (simp only [lv121,mkT,go_sem,Nat.reduceEqDiff,Nat.reduceAdd,Nat.reduceLeDiff,↓reduceIte,reduceCtorEq,hget,hx,encP_mk,exl,encPs_iff];first|exact rfl|((repeat refine ai ?_);intros;apply hk;clear hk K)))|refine qwc lv121 ?_|apply qt1|apply qt4|apply qj1|apply qj4|(refine qj6 ?_ ?_<;>intro hc<;>(try simp only [hc])<;>(try simp only [decide_eq_true_eq,decide_eq_false_iff_not] at hc)<;>(try (exfalso;omega))))
     · rename_i y9 hy9 hy9'
       refine s_againR ((true,k+1,y9)) (fun i=>if i=1 then 2 else i) ?_ ?_ ?_ ?_ ?_ ?_<;>(first|omega|(dsimp only;omega)|(intro i hi;(try dsimp only);(repeat' split)<;>omega)|(intro i j hi hj h;(try dsimp only at h);(repeat' split at h)<;>omega)|skip)
       · simp [fitsTR,PV.ren,upd_def,PV.nmb]
       · simp [fitsMR,MB.ren,upd_def,MB.nmb]
     · refine s_againR ((true,k+1,ys++[.mk kd t nm ps os])) (fun i=>if i=1 then 3 else i) ?_ ?_ ?_ ?_ ?_ ?_<;>(first|omega|(dsimp only;omega)|(intro i hi;(try dsimp only);(repeat' split)<;>omega)|(intro i j hi hj h;(try dsimp only at h);(repeat' split at h)<;>omega)|skip)
       · exact ⟨by dsimp only;omega,by dsimp only;rw [wtL_append,wtL_one,wtP_mk];omega⟩
       · simp [fitsTR,PV.ren,upd_def,PV.nmb]
       · simp [fitsMR,MB.ren,upd_def,MB.nmb,enc_snoc]
   · obtain rfl:k=zs.length:=by omega
     ((first|refine fin_V ?_|refine fin_Ve ?_|refine fin_O ?_|refine fin_Oe ?_|refine fin_X ?_|refine fin_Xe ?_|refine fin_B ?_|refine fin_Be ?_);simp only [go_sem,PV.own.injEq,MB.row.injEq,↓upd_def,↓reduceIte])
     rw [List.take_length] at hy
     exact hK _ ⟨_,rfl,hy⟩
@[go_sem] def putC:AC:=fun args mem n K=>match args with
 | [.own i,.seq zs']=>(match mem i with
   | some (.row e s es)=>e=79∧s=5∧(∃ zs,zs'=encPs zs∧ ∃ xs,es=encPs xs∧wtL xs≤100000∧wtL zs≤1000∧ ∀ ys,wtL ys≤wtL xs+2 * wtL zs→ys.length≤wtL xs+2 * wtL zs→K (.own n) (upd (upd mem i none) n (some (.row 79 5 (encPs ys)))) (n+1))
   | _=>False)
 | _=>False
theorem wtP_mem {xs:List PartD} {x:PartD} (h:x ∈ xs):wtP x≤wtL xs:=by
 obtain ⟨k,hk⟩:=List.getElem?_of_mem h
 have:=wtL_split hk
 omega
theorem put_ok:ACok Tryz.prog 121 putC:=put_ok0.mono fun args mem n K h=>by
 unfold putC at h
 split at h
 · rename_i i zs'
   split at h
   · rename_i e s es hm
     obtain ⟨rfl,rfl,zs,rfl,xs,rfl,h1,h2,hK⟩:=h
     refine ⟨(xs,zs),i,rfl,⟨h1,by dsimp only;omega,fun k t nm ps os hmem=>?_⟩,hm,?_⟩
     · have:=wtP_mem hmem
       rw [wtP_mk] at this
       dsimp only at this
       omega
     · rintro es ⟨ys,rfl,h3⟩
       exact hK ys h3 (Nat.le_trans (len_le_wtL ys) h3)
   · exact h.elim
 · exact h.elim
@[go_sem] def prtC0 (d:Int) (w:Nat) (q:Int):AC:=locO 79 5 (α:=Bs×Int) (fun _=>[.int .i64 d]) (fun x=>rdB x.1 x.2) (fun x=>x.1.length≤2000∧0≤x.2∧x.2+q≤1000000) (fun x es b'=> ∃ xs p',es=encPs xs∧b'=rdB x.1 p'∧wtL xs≤w∧x.2≤p'∧p'≤x.2+q)
@[go_sem] def prtC (d:Int) (w:Nat) (q:Int):AC:=fun args mem n K=>match args with
 | [.ref i o,.int .i64 d']=>d'=d∧(match mem i with
   | some (.box [.seq es,.int .i64 p])=>o=0∧(∃ l:Bs,es=l.map bc∧l.length≤2000)∧0≤p∧p+q≤1000000∧ ∀ (xs:List PartD) (p':Int),wtL xs≤w→xs.length≤w→p≤p'→p'≤p+q→K (.own n) (upd (upd mem i (some (.box [.seq es,.int .i64 p']))) n (some (.row 79 5 (encPs xs)))) (n+1)
   | _=>False)
 | _=>False
theorem prt_of {f:FuncId} {d:Int} {w:Nat} {q:Int} (hp:ACok Tryz.prog f (prtC0 d w q)):ACok Tryz.prog f (prtC d w q):=hp.mono fun args mem n K h=>by
 clear hp
 unfold prtC at h
 split at h
 · rename_i i o d'
   obtain ⟨rfl,h⟩:=h
   split at h
   · rename_i es p hm
     obtain ⟨rfl,⟨l,rfl,hl⟩,h0,h1,hK⟩:=h
     refine ⟨(l,p),i,rfl,⟨hl,h0,h1⟩,hm,?_⟩
     rintro es b' ⟨xs,p',rfl,rfl,h1,h2,h3⟩
     exact hK xs p' h1 (Nat.le_trans (len_le_wtL xs) h1) h2 h3
   · exact h.elim
 · exact h.elim
set_option maxHeartbeats 16000000 in
theorem prt0:ACok Tryz.prog 89 (prtC0 0 120 13):=by
 refine locO_ok 2 (tabA_cons pick_ok (tabA_cons nmD_ok (tabA_cons add_ok (tabA_nil (Γof_ok tab_nil))))) tab_nil mixed [.tmp 4] Tryz.func89 rfl rfl (by kernel_rfl) (by kernel_rfl) (fun _=>rfl) (by kernel_rfl) (fun x=>by simp [nmbL,PV.nmb]) (fun x=>by simp [go_sem,MB.nmb,nmbL,PV.nmb]) ?_
 rintro ⟨l,p⟩ K ⟨hl,h0,h1⟩ hK
 dsimp only at *
 unfold entry
 simp only [mkM,rdB] at *
 repeat' (first|((first|apply qwd|apply qa1);(try intro K hk);focus (simp only [lv89,mkT,go_sem,Nat.reduceEqDiff,Nat.reduceAdd,↓reduceIte,reduceCtorEq,exl];first|exact rfl|((repeat refine ai ?_);intros;apply hk;clear hk K)))|apply qw1|refine qwc lv89 ?_|apply qt1|apply qw5)
 rename_i k0 k1 k2
 refine s_loop (ι:=Int×List PartD×Int) (fun i=>[(0,.ref 0 0),(1,.int .i64 0),(5,.own 1),(6,.int .i64 i.1)]) (fun i=>[(0,.box [.seq (l.map bc),.int .i64 i.2.2]),(1,.row 79 5 (encPs i.2.1))]) 2 (fun i=>0≤i.1∧i.1≤3∧(wtL i.2.1:Int)≤(3 - i.1) * 40∧p≤i.2.2∧i.2.2≤p+1+(3 - i.1) * 4) (fun i=>i.1.toNat) (1+k0,[],p+1) (by omega) ⟨by dsimp only;omega,by dsimp only;omega,by simp [wtL_nil];omega,by dsimp only;omega,by dsimp only;omega⟩ ?_ ?_
 · simp [fits,fitsT,fitsM,upd_def,PV.nmb,nmbL,MB.nmb,encPs_nil]
 rintro ⟨m,xs,p2⟩ ⟨g0,g1,g2,g3,g4⟩
 dsimp only at *
 have hxa:=encPs_all xs
 have hxl:=len_le_wtL xs
 simp only [mkS,mkT,mkM]
 repeat' (first|((first|apply qwd|apply qa1|apply qa2|apply qcd);(try intro K hk);focus (simp only [lv89,mkT,go_sem,Nat.reduceEqDiff,Nat.reduceAdd,Nat.reduceLeDiff,Nat.reduceLT,↓reduceIte,reduceCtorEq,exl,encPs_iff];first|exact rfl|((repeat refine ai ?_);intros;apply hk;clear hk K)))|apply qw1|refine qwc lv89 ?_|apply qt1|apply qw5|apply qw2|apply qt2|apply qt4|apply qt5|apply qw3|apply qw4|apply qj1|apply qj4|(refine qj6 ?_ ?_<;>intro hc<;>(try simp only [hc])<;>(try simp only [decide_eq_true_eq,decide_eq_false_iff_not] at hc)<;>(try (exfalso;omega))))
 all_goals (try (refine qw10 [2] [0,2,3,5] [0,2,3,1,4,5] ?_ ?_;focus (decide +kernel)))
 all_goals repeat' (first|((first|apply qwd|apply qa1|apply qm1|apply qm2);(try intro K hk);focus (simp only [lv89,mkT,go_sem,Nat.reduceEqDiff,Nat.reduceAdd,Nat.reduceLeDiff,↓reduceIte,reduceCtorEq,exl,enc_snoc0,encPs_iff,wtL_append,wtL_one,wtP_mk,wtL_nil];first|exact rfl|((repeat refine ai ?_);intros;apply hk;clear hk K)))|refine qwc lv89 ?_|apply qt1|apply qt4|apply qne|(refine qk1 ?_ ?_;focus (repeat (first|exact qsub0|(refine qsub1 ?_ ?_;focus (simp only [go_sem,Nat.reduceEqDiff,↓reduceIte,reduceCtorEq]))))))
 rotate_right
 · ((first|refine fin_V ?_|refine fin_Ve ?_|refine fin_O ?_|refine fin_Oe ?_|refine fin_X ?_|refine fin_Xe ?_|refine fin_B ?_|refine fin_Be ?_);simp only [go_sem,PV.own.injEq,MB.row.injEq,MB.nmb,not_false_eq_true,ne_eq,↓upd_def,↓reduceIte,reduceCtorEq])
   exact hK _ _ ⟨_,_,rfl,rfl,by omega,by omega,by omega⟩
 all_goals (rename p2≤_=>hp9;obtain ⟨q9,hq9,_⟩:=le_ex hp9;subst hq9;rename Bs=>s9;rename List PartD=>y9)
 · refine s_againR ((m - 1,y9,q9+1)) (fun i=>if i=1 then 3 else i) ?_ ?_ ?_ ?_ ?_ ?_<;>(first|omega|(dsimp only;omega)|(intro i hi;(try dsimp only);(repeat' split)<;>omega)|(intro i j hi hj h;(try dsimp only at h);(repeat' split at h)<;>omega)|skip)
   all_goals (simp [fitsTR,fitsMR,PV.ren,renL,MB.ren,upd_def,PV.nmb,nmbL,MB.nmb];done)
 · refine s_againR ((m - 1,y9,q9+1)) (fun i=>if i=1 then 5 else i) ?_ ?_ ?_ ?_ ?_ ?_<;>(first|omega|(dsimp only;omega)|(intro i hi;(try dsimp only);(repeat' split)<;>omega)|(intro i j hi hj h;(try dsimp only at h);(repeat' split at h)<;>omega)|skip)
   all_goals (simp [fitsTR,fitsMR,PV.ren,renL,MB.ren,upd_def,PV.nmb,nmbL,MB.nmb];done)
 · refine s_againR ((m - 1,y9,q9+1)) (fun i=>if i=1 then 5 else i) ?_ ?_ ?_ ?_ ?_ ?_<;>(first|omega|(dsimp only;omega)|(intro i hi;(try dsimp only);(repeat' split)<;>omega)|(intro i j hi hj h;(try dsimp only at h);(repeat' split at h)<;>omega)|skip)
   all_goals (simp [fitsTR,fitsMR,PV.ren,renL,MB.ren,upd_def,PV.nmb,nmbL,MB.nmb];done)
 · refine s_againR ((m - 1,y9,q9+1)) (fun i=>if i=1 then 5 else i) ?_ ?_ ?_ ?_ ?_ ?_<;>(first|omega|(dsimp only;omega)|(intro i hi;(try dsimp only);(repeat' split)<;>omega)|(intro i j hi hj h;(try dsimp only at h);(repeat' split at h)<;>omega)|skip)
   all_goals (simp [fitsTR,fitsMR,PV.ren,renL,MB.ren,upd_def,PV.nmb,nmbL,MB.nmb];done)
 · refine s_againR ((m - 1,y9,q9+1)) (fun i=>if i=1 then 5 else i) ?_ ?_ ?_ ?_ ?_ ?_<;>(first|omega|(dsimp only;omega)|(intro i hi;(try dsimp only);(repeat' split)<;>omega)|(intro i j hi hj h;(try dsimp only at h);(repeat' split at h)<;>omega)|skip)
   all_goals (simp [fitsTR,fitsMR,PV.ren,renL,MB.ren,upd_def,PV.nmb,nmbL,MB.nmb];done)
 · refine s_againR ((m - 1,y9,q9+1)) (fun i=>if i=1 then 5 else i) ?_ ?_ ?_ ?_ ?_ ?_<;>(first|omega|(dsimp only;omega)|(intro i hi;(try dsimp only);(repeat' split)<;>omega)|(intro i j hi hj h;(try dsimp only at h);(repeat' split at h)<;>omega)|skip)
   all_goals (simp [fitsTR,fitsMR,PV.ren,renL,MB.ren,upd_def,PV.nmb,nmbL,MB.nmb];done)
 · refine s_againR ((m - 1,y9++[.mk 2 [] s9 [] []],q9+1)) (fun i=>if i=1 then 4 else i) ?_ ?_ ?_ ?_ ?_ ?_<;>(first|omega|(dsimp only;omega)|(intro i hi;(try dsimp only);(repeat' split)<;>omega)|(intro i j hi hj h;(try dsimp only at h);(repeat' split at h)<;>omega)|skip)
   · simp only [wtL_append,wtL_one,wtP_mk,wtL_nil];dsimp only [List.length_nil];omega
   all_goals (simp [fitsTR,fitsMR,PV.ren,renL,MB.ren,upd_def,PV.nmb,nmbL,MB.nmb,enc_snoc0];done)
 · refine s_again ((m - 1,y9,q9+1)) ?_ ?_ ?_<;>(first|omega|(dsimp only;omega)|skip)
   all_goals (simp [fits,fitsT,fitsM,upd_def,PV.nmb,nmbL,MB.nmb];done)
 · refine s_again ((m - 1,y9,q9+1)) ?_ ?_ ?_<;>(first|omega|(dsimp only;omega)|skip)
   all_goals (simp [fits,fitsT,fitsM,upd_def,PV.nmb,nmbL,MB.nmb];done)
theorem prt0':ACok Tryz.prog 89 (prtC 0 120 13):=prt_of prt0
end Go.Proofs.YtnbjogilidfkdaaGreat

/- Contracts: drawn parts, deeper. -/
namespace Go.Proofs.YtnbjogilidfkdaaGreat
attribute [local irreducible] awp arun acalm FinP Fin AX.then AX.inBlock Again aG gsel amix amixN amixC aop aopc aopd cutK
attribute [local go_sem] aBSliceD aSlice aSliceC boundOf aMk aCall aCallC aLenL aLen aPick_t aPick_f aNil aAlloc aBox aBuild bldPV aBSlice bsPV aApp newsOf destOf drp aConvX aConv aConvInt aLoad cellsAt aStore cellsPV setAt aFld aField aIdx aIndex aUn aBin' aBin aMax aExtract pvOf PV.isCell nmbL PV.nmb List.map_cons List.map_nil List.all_cons List.all_nil Bool.and_true Bool.true_and if_true if_false List.getD_cons_zero List.getD_cons_succ List.getD_nil Option.isSome_some true_and and_true and_self eq_self true_or or_true List.drop_zero List.drop_succ_cons List.drop_nil List.take_zero List.take_succ_cons List.take_nil List.length_cons List.length_nil List.length_map Option.getD_some Option.getD_none List.nil_append List.cons_append List.append_nil Option.some.injEq exists_eq_left' List.getElem?_cons_zero List.getElem?_cons_succ Int.toNat_natCast Int.natCast_inj toNat_succ Nat.zero_add res res1 resC owns owns1 ownsC List.flatMap_cons List.flatMap_nil List.flatten_cons List.flatten_nil List.mem_cons List.not_mem_nil or_false false_or forall_eq forall_eq_or_imp isFro frz frz1 pureC tabA isBld List.cons.injEq PV.seq.injEq PV.int.injEq PV.str.injEq PV.bool.injEq PV.agg.injEq inR tab Γof aRes packR Option.map_some Option.map_none rel Prod.exists exists_and_left exists_eq_left and_assoc beq_self_eq_true Bool.not_true Bool.not_false decide_true decide_false List.set_cons_zero List.set_cons_succ rst_nil rst_cons
attribute [local go_sem ↓] evT upd_def aop aopc aopd
set_option maxRecDepth 100000
set_option linter.unusedVariables false
set_option linter.unusedSimpArgs false
open Go.RowKit
def lvR3_89:Nat→List Nat
 | 0=>[0,1]
 | 1=>[0,1,5]
 | 2=>[0,1,5,6]
 | 3=>[0,1,5,6,14]
 | 4=>[0,1,5,6]
 | 5=>[0,1,5,6,7]
 | 6=>[0,1,5,6,7,21]
 | 7=>[0,1,5,6,23]
 | 8=>[0,1,5,6]
 | 9=>[0,1,5,6,7,21,36]
 | 10=>[0,1,5,6]
 | 11=>[0,1,5,6,7,21,40]
 | 12=>[0,1,5,6]
 | 13=>[0,1,5,6]
 | 14=>[0,1,5,6,7,21,49]
 | 15=>[0,1,5,6]
 | 16=>[0,1,5,6]
 | 17=>[0,1,5,6,7,21,58]
 | 18=>[0,1,5,6]
 | 19=>[0,1,5,6]
 | 20=>[0,1,5,6,7,21,67]
 | 21=>[0,1,5,6]
 | 22=>[0,1,5,6]
 | 23=>[0,1,5,6,7,21,76]
 | 24=>[0,1,5,6]
 | 25=>[0,1,5,6]
 | 26=>[0,1,5,6,7,21,85]
 | 27=>[0,1,5,6]
 | 28=>[0,1,5,6,91]
 | 29=>[0,1,5,6,94]
 | 30=>[0,1,5,6,8]
 | 31=>[0,1,5,6,8,104]
 | 32=>[0,1,5,6,8]
 | 33=>[0,1,5,6]
 | 34=>[4]
 | _=>[]
--LV=R3
theorem put_ok':ACok Tryz.prog 121 (frz2 putC):=frz2_ok put_ok
set_option maxHeartbeats 16000000 in
theorem prt1:ACok Tryz.prog 89 (prtC0 1 780 100):=by
 refine locO_ok 2 (tabA_cons pick_ok (tabA_cons nmD_ok (tabA_cons add_ok (tabA_cons prt0' (tabA_cons put_ok' (tabA_nil (Γof_ok tab_nil))))))) tab_nil mixed [.tmp 4] Tryz.func89 rfl rfl (by kernel_rfl) (by kernel_rfl) (fun _=>rfl) (by kernel_rfl) (fun x=>by simp [nmbL,PV.nmb]) (fun x=>by simp [go_sem,MB.nmb,nmbL,PV.nmb]) ?_
 rintro ⟨l,p⟩ K ⟨hl,h0,h1⟩ hK
 dsimp only at *
 unfold entry
 simp only [mkM,rdB] at *
 repeat' (first|((first|apply qwd|apply qa1);(try intro K hk);focus (simp only [lvR3_89,mkT,go_sem,Nat.reduceEqDiff,Nat.reduceAdd,↓reduceIte,reduceCtorEq,exl];first|exact rfl|((repeat refine ai ?_);intros;apply hk;clear hk K)))|apply qw1|refine qwc lvR3_89 ?_|apply qt1|apply qw5)
 rename_i k0 k1 k2
 refine s_loop (ι:=Int×List PartD×Int) (fun i=>[(0,.ref 0 0),(1,.int .i64 1),(5,.own 1),(6,.int .i64 i.1)]) (fun i=>[(0,.box [.seq (l.map bc),.int .i64 i.2.2]),(1,.row 79 5 (encPs i.2.1))]) 2 (fun i=>0≤i.1∧i.1≤3∧(wtL i.2.1:Int)≤(3 - i.1) * 260∧p≤i.2.2∧i.2.2≤p+1+(3 - i.1) * 33) (fun i=>i.1.toNat) (1+k0,[],p+1) (by omega) ⟨by dsimp only;omega,by dsimp only;omega,by simp [wtL_nil];omega,by dsimp only;omega,by dsimp only;omega⟩ ?_ ?_
 · simp [fits,fitsT,fitsM,upd_def,PV.nmb,nmbL,MB.nmb,encPs_nil]
 rintro ⟨m,xs,p2⟩ ⟨g0,g1,g2,g3,g4⟩
 dsimp only at *
 have hxa:=encPs_all xs
 have hxl:=len_le_wtL xs
 simp only [mkS,mkT,mkM]
 repeat' (first|((first|apply qwd|apply qa1|apply qa2|apply qcd);(try intro K hk);focus (simp only [lvR3_89,mkT,go_sem,Nat.reduceEqDiff,Nat.reduceAdd,Nat.reduceLeDiff,Nat.reduceLT,↓reduceIte,reduceCtorEq,exl,enc_nil,encPs_iff,wtL_nil];first|exact rfl|((repeat refine ai ?_);intros;apply hk;clear hk K)))|apply qw1|refine qwc lvR3_89 ?_|apply qt1|apply qw5|apply qw2|apply qt2|apply qt4|apply qt5|apply qw3|apply qw4|apply qj1|apply qj4|(refine qj6 ?_ ?_<;>intro hc<;>(try simp only [hc])<;>(try simp only [decide_eq_true_eq,decide_eq_false_iff_not] at hc)<;>(try (exfalso;omega))))
 all_goals (try (refine qw10 [2] [0,2,3,5] [0,2,3,1,4,5] ?_ ?_;focus (decide +kernel)))
 all_goals repeat' (first|((first|apply qwd|apply qa1|apply qm1|apply qm2);(try intro K hk);focus (simp only [lvR3_89,mkT,go_sem,Nat.reduceEqDiff,Nat.reduceAdd,Nat.reduceLeDiff,↓reduceIte,reduceCtorEq,exl,enc_snoc0,encPs_iff,wtL_append,wtL_one,wtP_mk,wtL_nil];first|exact rfl|((repeat refine ai ?_);intros;apply hk;clear hk K)))|refine qwc lvR3_89 ?_|apply qt1|apply qt4|apply qne|(refine qk1 ?_ ?_;focus (repeat (first|exact qsub0|(refine qsub1 ?_ ?_;focus (simp only [go_sem,Nat.reduceEqDiff,↓reduceIte,reduceCtorEq]))))))
 rotate_right
 · ((first|refine fin_V ?_|refine fin_Ve ?_|refine fin_O ?_|refine fin_Oe ?_|refine fin_X ?_|refine fin_Xe ?_|refine fin_B ?_|refine fin_Be ?_);simp only [go_sem,PV.own.injEq,MB.row.injEq,MB.nmb,not_false_eq_true,ne_eq,↓upd_def,↓reduceIte,reduceCtorEq])
   exact hK _ _ ⟨_,_,rfl,rfl,by omega,by omega,by omega⟩
 · rename p2≤_=>hp9;obtain ⟨q9,hq9,_⟩:=le_ex hp9;subst hq9;rename Bs=>s9;rename List PartD=>y9
   refine s_againR ((m - 1,y9,q9+1)) (fun i=>if i=1 then 3 else i) ?_ ?_ ?_ ?_ ?_ ?_<;>(first|omega|(dsimp only;omega)|(intro i hi;(try dsimp only);(repeat' split)<;>omega)|(intro i j hi hj h;(try dsimp only at h);(repeat' split at h)<;>omega)|skip)
   all_goals (simp [fitsTR,fitsMR,PV.ren,renL,MB.ren,upd_def,PV.nmb,nmbL,MB.nmb];done)
 · rename p2≤_=>hp9;obtain ⟨q9,hq9,_⟩:=le_ex hp9;subst hq9;rename Bs=>s9;rename List PartD=>y9
   refine s_againR ((m - 1,y9,q9+1)) (fun i=>if i=1 then 5 else i) ?_ ?_ ?_ ?_ ?_ ?_<;>(first|omega|(dsimp only;omega)|(intro i hi;(try dsimp only);(repeat' split)<;>omega)|(intro i j hi hj h;(try dsimp only at h);(repeat' split at h)<;>omega)|skip)
   all_goals (simp [fitsTR,fitsMR,PV.ren,renL,MB.ren,upd_def,PV.nmb,nmbL,MB.nmb];done)
 · rename p2≤_=>hp9;obtain ⟨q9,hq9,_⟩:=le_ex hp9;subst hq9;rename Bs=>s9;rename List PartD=>y9
   refine s_againR ((m - 1,y9,q9+1)) (fun i=>if i=1 then 5 else i) ?_ ?_ ?_ ?_ ?_ ?_<;>(first|omega|(dsimp only;omega)|(intro i hi;(try dsimp only);(repeat' split)<;>omega)|(intro i j hi hj h;(try dsimp only at h);(repeat' split at h)<;>omega)|skip)
   all_goals (simp [fitsTR,fitsMR,PV.ren,renL,MB.ren,upd_def,PV.nmb,nmbL,MB.nmb];done)
 · rename p2≤_=>hp9;obtain ⟨q9,hq9,_⟩:=le_ex hp9;subst hq9;rename Bs=>s9;rename List PartD=>y9
   refine s_againR ((m - 1,y9,q9+1)) (fun i=>if i=1 then 5 else i) ?_ ?_ ?_ ?_ ?_ ?_<;>(first|omega|(dsimp only;omega)|(intro i hi;(try dsimp only);(repeat' split)<;>omega)|(intro i j hi hj h;(try dsimp only at h);(repeat' split at h)<;>omega)|skip)
   all_goals (simp [fitsTR,fitsMR,PV.ren,renL,MB.ren,upd_def,PV.nmb,nmbL,MB.nmb];done)
 · rename p2≤_=>hp9;obtain ⟨q9,hq9,_⟩:=le_ex hp9;subst hq9;rename Bs=>s9;rename List PartD=>y9
   refine s_againR ((m - 1,y9,q9+1)) (fun i=>if i=1 then 5 else i) ?_ ?_ ?_ ?_ ?_ ?_<;>(first|omega|(dsimp only;omega)|(intro i hi;(try dsimp only);(repeat' split)<;>omega)|(intro i j hi hj h;(try dsimp only at h);(repeat' split at h)<;>omega)|skip)
   all_goals (simp [fitsTR,fitsMR,PV.ren,renL,MB.ren,upd_def,PV.nmb,nmbL,MB.nmb];done)
 · rename p2≤_=>hp9;obtain ⟨q9,hq9,_⟩:=le_ex hp9;subst hq9;rename Bs=>s9;rename List PartD=>y9
   refine s_againR ((m - 1,y9,q9+1)) (fun i=>if i=1 then 5 else i) ?_ ?_ ?_ ?_ ?_ ?_<;>(first|omega|(dsimp only;omega)|(intro i hi;(try dsimp only);(repeat' split)<;>omega)|(intro i j hi hj h;(try dsimp only at h);(repeat' split at h)<;>omega)|skip)
   all_goals (simp [fitsTR,fitsMR,PV.ren,renL,MB.ren,upd_def,PV.nmb,nmbL,MB.nmb];done)
 · rename p2≤_=>hp9;obtain ⟨q9,hq9,_⟩:=le_ex hp9;subst hq9;rename Bs=>s9;rename List PartD=>y9
   refine s_againR ((m - 1,y9++[.mk 2 [] s9 [] []],q9+1)) (fun i=>if i=1 then 4 else i) ?_ ?_ ?_ ?_ ?_ ?_<;>(first|omega|(dsimp only;omega)|(intro i hi;(try dsimp only);(repeat' split)<;>omega)|(intro i j hi hj h;(try dsimp only at h);(repeat' split at h)<;>omega)|skip)
   · simp only [wtL_append,wtL_one,wtP_mk,wtL_nil];dsimp only [List.length_nil];omega
   all_goals (simp [fitsTR,fitsMR,PV.ren,renL,MB.ren,upd_def,PV.nmb,nmbL,MB.nmb,enc_snoc0];done)
 · rename_i s9 q1 _ _ _ y1 q2 _ _ _ _ k9 _ _ y2 q3 _ _ _ _
   refine s_againR ((m - 1,xs++[.mk 3 [] s9 y1 y2],q3)) (fun i=>if i=1 then 7 else i) ?_ ?_ ?_ ?_ ?_ ?_<;>(first|omega|(dsimp only;omega)|(intro i hi;(try dsimp only);(repeat' split)<;>omega)|(intro i j hi hj h;(try dsimp only at h);(repeat' split at h)<;>omega)|skip)
   · simp only [wtL_append,wtL_one,wtP_mk];dsimp only [List.length_nil];omega
   all_goals (simp [fitsTR,fitsMR,PV.ren,renL,MB.ren,upd_def,PV.nmb,nmbL,MB.nmb,enc_snoc];done)
 · rename_i s9 q1 _ _ _ y1 q2 _ _ _ _ k9 _ _
   refine s_againR ((m - 1,xs++[.mk 3 [] s9 y1 []],q2+1)) (fun i=>if i=1 then 6 else i) ?_ ?_ ?_ ?_ ?_ ?_<;>(first|omega|(dsimp only;omega)|(intro i hi;(try dsimp only);(repeat' split)<;>omega)|(intro i j hi hj h;(try dsimp only at h);(repeat' split at h)<;>omega)|skip)
   · simp only [wtL_append,wtL_one,wtP_mk,wtL_nil];dsimp only [List.length_nil];omega
   all_goals (simp [fitsTR,fitsMR,PV.ren,renL,MB.ren,upd_def,PV.nmb,nmbL,MB.nmb,enc_snoc1];done)
 · rename_i s9 q1 _ _ _ y1 q2 _ _ _ _ y2 _ _
   refine s_againR ((m - 1,xs++[.mk 4 [] s9 y2 []],q2)) (fun i=>if i=1 then 7 else i) ?_ ?_ ?_ ?_ ?_ ?_<;>(first|omega|(dsimp only;omega)|(intro i hi;(try dsimp only);(repeat' split)<;>omega)|(intro i j hi hj h;(try dsimp only at h);(repeat' split at h)<;>omega)|skip)
   · simp only [wtL_append,wtL_one,wtP_mk,wtL_nil];dsimp only [List.length_nil];omega
   all_goals (simp [fitsTR,fitsMR,PV.ren,renL,MB.ren,upd_def,PV.nmb,nmbL,MB.nmb,enc_snoc1];done)
theorem prt1':ACok Tryz.prog 89 (prtC 1 780 100):=prt_of prt1
set_option maxHeartbeats 16000000 in
theorem prt2:ACok Tryz.prog 89 (prtC0 2 4800 700):=by
 refine locO_ok 2 (tabA_cons pick_ok (tabA_cons nmD_ok (tabA_cons add_ok (tabA_cons prt1' (tabA_cons put_ok' (tabA_nil (Γof_ok tab_nil))))))) tab_nil mixed [.tmp 4] Tryz.func89 rfl rfl (by kernel_rfl) (by kernel_rfl) (fun _=>rfl) (by kernel_rfl) (fun x=>by simp [nmbL,PV.nmb]) (fun x=>by simp [go_sem,MB.nmb,nmbL,PV.nmb]) ?_
 rintro ⟨l,p⟩ K ⟨hl,h0,h1⟩ hK
 dsimp only at *
 unfold entry
 simp only [mkM,rdB] at *
 repeat' (first|((first|apply qwd|apply qa1);(try intro K hk);focus (simp only [lvR3_89,mkT,go_sem,Nat.reduceEqDiff,Nat.reduceAdd,↓reduceIte,reduceCtorEq,exl];first|exact rfl|((repeat refine ai ?_);intros;apply hk;clear hk K)))|apply qw1|refine qwc lvR3_89 ?_|apply qt1|apply qw5)
 rename_i k0 k1 k2
 refine s_loop (ι:=Int×List PartD×Int) (fun i=>[(0,.ref 0 0),(1,.int .i64 2),(5,.own 1),(6,.int .i64 i.1)]) (fun i=>[(0,.box [.seq (l.map bc),.int .i64 i.2.2]),(1,.row 79 5 (encPs i.2.1))]) 2 (fun i=>0≤i.1∧i.1≤3∧(wtL i.2.1:Int)≤(3 - i.1) * 1600∧p≤i.2.2∧i.2.2≤p+1+(3 - i.1) * 220) (fun i=>i.1.toNat) (1+k0,[],p+1) (by omega) ⟨by dsimp only;omega,by dsimp only;omega,by simp [wtL_nil];omega,by dsimp only;omega,by dsimp only;omega⟩ ?_ ?_
 · simp [fits,fitsT,fitsM,upd_def,PV.nmb,nmbL,MB.nmb,encPs_nil]
 rintro ⟨m,xs,p2⟩ ⟨g0,g1,g2,g3,g4⟩
 dsimp only at *
 have hxa:=encPs_all xs
 have hxl:=len_le_wtL xs
 simp only [mkS,mkT,mkM]
 repeat' (first|((first|apply qwd|apply qa1|apply qa2|apply qcd);(try intro K hk);focus (simp only [lvR3_89,mkT,go_sem,Nat.reduceEqDiff,Nat.reduceAdd,Nat.reduceLeDiff,Nat.reduceLT,↓reduceIte,reduceCtorEq,exl,enc_nil,encPs_iff,wtL_nil];first|exact rfl|((repeat refine ai ?_);intros;apply hk;clear hk K)))|apply qw1|refine qwc lvR3_89 ?_|apply qt1|apply qw5|apply qw2|apply qt2|apply qt4|apply qt5|apply qw3|apply qw4|apply qj1|apply qj4|(refine qj6 ?_ ?_<;>intro hc<;>(try simp only [hc])<;>(try simp only [decide_eq_true_eq,decide_eq_false_iff_not] at hc)<;>(try (exfalso;omega))))
 all_goals (try (refine qw10 [2] [0,2,3,5] [0,2,3,1,4,5] ?_ ?_;focus (decide +kernel)))
 all_goals repeat' (first|((first|apply qwd|apply qa1|apply qm1|apply qm2);(try intro K hk);focus (simp only [lvR3_89,mkT,go_sem,Nat.reduceEqDiff,Nat.reduceAdd,Nat.reduceLeDiff,↓reduceIte,reduceCtorEq,exl,enc_snoc0,encPs_iff,wtL_append,wtL_one,wtP_mk,wtL_nil];first|exact rfl|((repeat refine ai ?_);intros;apply hk;clear hk K)))|refine qwc lvR3_89 ?_|apply qt1|apply qt4|apply qne|(refine qk1 ?_ ?_;focus (repeat (first|exact qsub0|(refine qsub1 ?_ ?_;focus (simp only [go_sem,Nat.reduceEqDiff,↓reduceIte,reduceCtorEq]))))))
 rotate_right
 · ((first|refine fin_V ?_|refine fin_Ve ?_|refine fin_O ?_|refine fin_Oe ?_|refine fin_X ?_|refine fin_Xe ?_|refine fin_B ?_|refine fin_Be ?_);simp only [go_sem,PV.own.injEq,MB.row.injEq,MB.nmb,not_false_eq_true,ne_eq,↓upd_def,↓reduceIte,reduceCtorEq])
   exact hK _ _ ⟨_,_,rfl,rfl,by omega,by omega,by omega⟩
 · rename p2≤_=>hp9;obtain ⟨q9,hq9,_⟩:=le_ex hp9;subst hq9;rename Bs=>s9;rename List PartD=>y9
   refine s_againR ((m - 1,y9,q9+1)) (fun i=>if i=1 then 3 else i) ?_ ?_ ?_ ?_ ?_ ?_<;>(first|omega|(dsimp only;omega)|(intro i hi;(try dsimp only);(repeat' split)<;>omega)|(intro i j hi hj h;(try dsimp only at h);(repeat' split at h)<;>omega)|skip)
   all_goals (simp [fitsTR,fitsMR,PV.ren,renL,MB.ren,upd_def,PV.nmb,nmbL,MB.nmb];done)
 · rename p2≤_=>hp9;obtain ⟨q9,hq9,_⟩:=le_ex hp9;subst hq9;rename Bs=>s9;rename List PartD=>y9
   refine s_againR ((m - 1,y9,q9+1)) (fun i=>if i=1 then 5 else i) ?_ ?_ ?_ ?_ ?_ ?_<;>(first|omega|(dsimp only;omega)|(intro i hi;(try dsimp only);(repeat' split)<;>omega)|(intro i j hi hj h;(try dsimp only at h);(repeat' split at h)<;>omega)|skip)
   all_goals (simp [fitsTR,fitsMR,PV.ren,renL,MB.ren,upd_def,PV.nmb,nmbL,MB.nmb];done)
 · rename p2≤_=>hp9;obtain ⟨q9,hq9,_⟩:=le_ex hp9;subst hq9;rename Bs=>s9;rename List PartD=>y9
   refine s_againR ((m - 1,y9,q9+1)) (fun i=>if i=1 then 5 else i) ?_ ?_ ?_ ?_ ?_ ?_<;>(first|omega|(dsimp only;omega)|(intro i hi;(try dsimp only);(repeat' split)<;>omega)|(intro i j hi hj h;(try dsimp only at h);(repeat' split at h)<;>omega)|skip)
   all_goals (simp [fitsTR,fitsMR,PV.ren,renL,MB.ren,upd_def,PV.nmb,nmbL,MB.nmb];done)
 · rename p2≤_=>hp9;obtain ⟨q9,hq9,_⟩:=le_ex hp9;subst hq9;rename Bs=>s9;rename List PartD=>y9
   refine s_againR ((m - 1,y9,q9+1)) (fun i=>if i=1 then 5 else i) ?_ ?_ ?_ ?_ ?_ ?_<;>(first|omega|(dsimp only;omega)|(intro i hi;(try dsimp only);(repeat' split)<;>omega)|(intro i j hi hj h;(try dsimp only at h);(repeat' split at h)<;>omega)|skip)
   all_goals (simp [fitsTR,fitsMR,PV.ren,renL,MB.ren,upd_def,PV.nmb,nmbL,MB.nmb];done)
 · rename p2≤_=>hp9;obtain ⟨q9,hq9,_⟩:=le_ex hp9;subst hq9;rename Bs=>s9;rename List PartD=>y9
   refine s_againR ((m - 1,y9,q9+1)) (fun i=>if i=1 then 5 else i) ?_ ?_ ?_ ?_ ?_ ?_<;>(first|omega|(dsimp only;omega)|(intro i hi;(try dsimp only);(repeat' split)<;>omega)|(intro i j hi hj h;(try dsimp only at h);(repeat' split at h)<;>omega)|skip)
   all_goals (simp [fitsTR,fitsMR,PV.ren,renL,MB.ren,upd_def,PV.nmb,nmbL,MB.nmb];done)
 · rename p2≤_=>hp9;obtain ⟨q9,hq9,_⟩:=le_ex hp9;subst hq9;rename Bs=>s9;rename List PartD=>y9
   refine s_againR ((m - 1,y9,q9+1)) (fun i=>if i=1 then 5 else i) ?_ ?_ ?_ ?_ ?_ ?_<;>(first|omega|(dsimp only;omega)|(intro i hi;(try dsimp only);(repeat' split)<;>omega)|(intro i j hi hj h;(try dsimp only at h);(repeat' split at h)<;>omega)|skip)
   all_goals (simp [fitsTR,fitsMR,PV.ren,renL,MB.ren,upd_def,PV.nmb,nmbL,MB.nmb];done)
 · rename p2≤_=>hp9;obtain ⟨q9,hq9,_⟩:=le_ex hp9;subst hq9;rename Bs=>s9;rename List PartD=>y9
   refine s_againR ((m - 1,y9++[.mk 2 [] s9 [] []],q9+1)) (fun i=>if i=1 then 4 else i) ?_ ?_ ?_ ?_ ?_ ?_<;>(first|omega|(dsimp only;omega)|(intro i hi;(try dsimp only);(repeat' split)<;>omega)|(intro i j hi hj h;(try dsimp only at h);(repeat' split at h)<;>omega)|skip)
   · simp only [wtL_append,wtL_one,wtP_mk,wtL_nil];dsimp only [List.length_nil];omega
   all_goals (simp [fitsTR,fitsMR,PV.ren,renL,MB.ren,upd_def,PV.nmb,nmbL,MB.nmb,enc_snoc0];done)
 · rename_i s9 q1 _ _ _ y1 q2 _ _ _ _ k9 _ _ y2 q3 _ _ _ _
   refine s_againR ((m - 1,xs++[.mk 3 [] s9 y1 y2],q3)) (fun i=>if i=1 then 7 else i) ?_ ?_ ?_ ?_ ?_ ?_<;>(first|omega|(dsimp only;omega)|(intro i hi;(try dsimp only);(repeat' split)<;>omega)|(intro i j hi hj h;(try dsimp only at h);(repeat' split at h)<;>omega)|skip)
   · simp only [wtL_append,wtL_one,wtP_mk];dsimp only [List.length_nil];omega
   all_goals (simp [fitsTR,fitsMR,PV.ren,renL,MB.ren,upd_def,PV.nmb,nmbL,MB.nmb,enc_snoc];done)
 · rename_i s9 q1 _ _ _ y1 q2 _ _ _ _ k9 _ _
   refine s_againR ((m - 1,xs++[.mk 3 [] s9 y1 []],q2+1)) (fun i=>if i=1 then 6 else i) ?_ ?_ ?_ ?_ ?_ ?_<;>(first|omega|(dsimp only;omega)|(intro i hi;(try dsimp only);(repeat' split)<;>omega)|(intro i j hi hj h;(try dsimp only at h);(repeat' split at h)<;>omega)|skip)
   · simp only [wtL_append,wtL_one,wtP_mk,wtL_nil];dsimp only [List.length_nil];omega
   all_goals (simp [fitsTR,fitsMR,PV.ren,renL,MB.ren,upd_def,PV.nmb,nmbL,MB.nmb,enc_snoc1];done)
 · rename_i s9 q1 _ _ _ y1 q2 _ _ _ _ y2 _ _
   refine s_againR ((m - 1,xs++[.mk 4 [] s9 y2 []],q2)) (fun i=>if i=1 then 7 else i) ?_ ?_ ?_ ?_ ?_ ?_<;>(first|omega|(dsimp only;omega)|(intro i hi;(try dsimp only);(repeat' split)<;>omega)|(intro i j hi hj h;(try dsimp only at h);(repeat' split at h)<;>omega)|skip)
   · simp only [wtL_append,wtL_one,wtP_mk,wtL_nil];dsimp only [List.length_nil];omega
   all_goals (simp [fitsTR,fitsMR,PV.ren,renL,MB.ren,upd_def,PV.nmb,nmbL,MB.nmb,enc_snoc1];done)
theorem prt2':ACok Tryz.prog 89 (prtC 2 4800 700):=prt_of prt2
end Go.Proofs.YtnbjogilidfkdaaGreat
