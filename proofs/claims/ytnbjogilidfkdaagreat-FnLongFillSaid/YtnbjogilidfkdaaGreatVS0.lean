/- The machine of modes: contracts' shapes, bytes. No program. -/
import Derived.Test.YtnbjogilidfkdaaGreatVFE
import Derived.Test.YtnbjogilidfkdaaGreatVX1
import Derived.Test.YtnbjogilidfkdaaGreatVTY

namespace Go.Proofs.YtnbjogilidfkdaaGreat
set_option maxRecDepth 100000
set_option linter.unusedVariables false
set_option linter.unusedSimpArgs false
open Go.RowKit
--LV=S0
@[go_sem] def stC (f:St→PV):PC:=rel (α:=St) (fun s=>[.agg (encS s)]) okS f
@[go_sem] def sbC (pre:St→Prop) (f:St→UInt8→St):PC:=rel (α:=St×Int) (fun x=>[.agg (encS x.1),.int .u8 x.2]) (fun x=>0≤x.2∧x.2<256∧pre x.1) (fun x=> .agg (encS (f x.1 (ofI x.2))))
@[go_sem] def saC:PC:=rel (α:=St×Bs) (fun x=>[.agg (encS x.1),.str x.2]) (fun x=>okS x.1∧x.2.length≤1099511627776) (fun x=> .agg (encS (afterS x.1 x.2)))
theorem ofI_cast2 {c:Nat} (h:c<256):(ofI (c:Int)).toNat=c:=by
 have:=ofI_nat (UInt8.ofNat c)
 have e:(UInt8.ofNat c).toNat=c:=by simp;omega
 rw [e] at this
 rw [this,e]
theorem lowS_len (s:Bs):(lowS s).length=s.length:=by unfold lowS;simp
def moreS (m:Int) (t a:Bs) (w:Bs):St :=
 if m=4 then (if (a++lowS w).length > 10∨t.length > 10 then bad else ⟨m,t,a++lowS w,false⟩) else (if a.length > 10∨(t++lowS w).length > 10 then bad else ⟨m,t++lowS w,a,false⟩)
theorem encS_eq (s:St):encS s=[.int .i64 s.mode,.str s.tag,.str s.attr,.bool s.seen]:=rfl
theorem stV_len {s:St} (h:stV s=true):s.tag.length≤10∧s.attr.length≤10:=by
 have h1:=(stV_parts h).2.2.1
 have h2:=(stV_parts h).2.2.2.1
 unfold tagOk at h1
 unfold attrOk at h2
 constructor
 · split at h1
   · exact (nameB_len h1).2
   · split at h1
     · simp only [Bool.or_eq_true,decide_eq_true_eq] at h1
       rcases h1 with h1|h1
       · rw [h1];simp
       · exact (nameB_len h1).2
     · simp only [decide_eq_true_eq] at h1;rw [h1];simp
 · split at h2
   · exact (nameB_len h2).2
   · simp only [decide_eq_true_eq] at h2;rw [h2];simp
theorem bare_nm: ∀ c:UInt8,bareB c=(nmByte c || decide (c.toNat=95) || decide (c.toNat=46) || decide (c.toNat=47) || decide (c.toNat=58)):=all_bytes (by decide)
theorem cls_byte: ∀ c:UInt8,(isLet c=true→nmByte c=true)∧(nmByte c=true→c.toNat≠32∧c.toNat≠62∧c.toNat≠61∧c.toNat≠34∧c.toNat≠39∧c.toNat≠47∧c.toNat≠33):=all_bytes (by decide)
theorem low_one (b:UInt8):lowS [b]=[low1 b]:=rfl
theorem moreS_t {m:Int} {t:Bs} {c:UInt8} (h:m≠4):moreS m t [] [c]=longT ⟨m,t,[],false⟩ c:=by
 unfold moreS longT
 rw [if_neg h,low_one,List.length_append]
 by_cases h1:t.length+1 > 10
 · rw [if_pos h1,if_pos (.inr (by simpa using h1))]
 · rw [if_neg h1,if_neg (by simp;omega)]
theorem moreS_a {t a:Bs} {c:UInt8} (h:t.length≤10):moreS 4 t a [c]=longA ⟨4,t,a,false⟩ c:=by
 unfold moreS longA
 rw [if_pos rfl,low_one,List.length_append]
 by_cases h1:a.length+1 > 10
 · rw [if_pos h1,if_pos (.inl (by simpa using h1))]
 · rw [if_neg h1,if_neg (by simp;omega)]
theorem ex_St {m:Int} {t a:Bs} {b:Bool} {p:St→Prop}:(∃ s:St,m=s.mode∧t=s.tag∧a=s.attr∧b=s.seen∧p s)↔p ⟨m,t,a,b⟩:=by
 constructor
 · rintro ⟨⟨m',t',a',b'⟩,h1,h2,h3,h4,hp⟩
   dsimp only at h1 h2 h3 h4
   subst h1 h2 h3 h4
   exact hp
 · exact fun h=>⟨_,rfl,rfl,rfl,rfl,h⟩
theorem step_bad' {s:St} {c:UInt8} (h:stV s=false):step s c=bad:=by unfold step;rw [if_neg (by rw [h];decide)]
end Go.Proofs.YtnbjogilidfkdaaGreat

/- Contracts: one step of the machine of modes. -/
namespace Go.Proofs.YtnbjogilidfkdaaGreat
attribute [local irreducible] awp arun acalm FinP Fin AX.then AX.inBlock Again aG gsel amix amixN amixC aop aopc aopd cutK
attribute [local go_sem] aBSliceD aSlice aSliceC boundOf aMk aCall aCallC aLenL aLen aPick_t aPick_f aNil aAlloc aBox aBuild bldPV aBSlice bsPV aApp newsOf destOf drp aConvX aConv aConvInt aLoad cellsAt aStore cellsPV setAt aFld aField aIdx aIndex aUn aBin' aBin aMax aExtract pvOf PV.isCell nmbL PV.nmb List.map_cons List.map_nil List.all_cons List.all_nil Bool.and_true Bool.true_and if_true if_false List.getD_cons_zero List.getD_cons_succ List.getD_nil Option.isSome_some true_and and_true and_self eq_self true_or or_true List.drop_zero List.drop_succ_cons List.drop_nil List.take_zero List.take_succ_cons List.take_nil List.length_cons List.length_nil List.length_map Option.getD_some Option.getD_none List.nil_append List.cons_append List.append_nil Option.some.injEq exists_eq_left' List.getElem?_cons_zero List.getElem?_cons_succ Int.toNat_natCast Int.natCast_inj toNat_succ Nat.zero_add res res1 resC owns owns1 ownsC List.flatMap_cons List.flatMap_nil List.flatten_cons List.flatten_nil List.mem_cons List.not_mem_nil or_false false_or forall_eq forall_eq_or_imp isFro frz frz1 pureC tabA isBld List.cons.injEq PV.seq.injEq PV.int.injEq PV.str.injEq PV.bool.injEq PV.agg.injEq inR tab Γof aRes packR Option.map_some Option.map_none rel Prod.exists exists_and_left exists_eq_left and_assoc beq_self_eq_true Bool.not_true Bool.not_false decide_true decide_false List.set_cons_zero List.set_cons_succ rst_nil rst_cons
attribute [local go_sem ↓] evT upd_def aop aopc aopd
set_option maxRecDepth 100000
set_option linter.unusedVariables false
set_option linter.unusedSimpArgs false
open Go.RowKit
def lvS2_79:Nat→List Nat
 | 0=>[1,2,3,6]
 | 1=>[1,2,3,6,7]
 | 2=>[1,3,6,7,9]
 | 3=>[1,3,6,7]
 | 4=>[3,6,7]
 | 5=>[3,6,24]
 | 6=>[6]
 | 7=>[6]
 | _=>[]
--LV=S2
theorem bare_i:PureOk Tryz.prog 77 (byC fun b=> .bool (bareB b)):=by
 refine pure_rel 1 (tab_cons let_i (tab_cons digb_i (tab_cons has_i tab_nil))) mixed [.tmp 2] Tryz.func77 rfl rfl (by kernel_rfl) (by kernel_rfl) (fun _=>rfl) (by kernel_rfl) ?_
 rintro b K _ hK
 unfold entry
 repeat' (first|((first|apply qa1|apply qh1|apply qg1 rfl);(try intro K hk);focus (simp only [go_sem,Nat.reduceEqDiff,Nat.reduceAdd,Nat.reduceLeDiff,↓reduceIte,reduceCtorEq];first|exact rfl|((repeat refine ai ?_);intros;apply hk;clear hk K)))|apply qw8|apply qw1|apply qw6|apply qt1|apply qw4|apply qj2|apply qj3|apply qu1|(refine qj6 ?_ ?_<;>intro hc<;>(try simp only [hc])<;>(try simp only [decide_eq_true_eq,decide_eq_false_iff_not,Bool.not_eq_true',Bool.not_eq_false',Bool.not_eq_true,reduceCtorEq] at hc)<;>(try (exfalso;omega))))
 all_goals
  ((first|refine fin_ret ?_|refine fin_end ?_);simp only [go_sem,↓upd_def,↓reduceIte])
  refine K_bool hK ?_
  clear hK
  unfold bareB
  simp [*]
set_option maxHeartbeats 8000000 in
theorem long_i:PureOk Tryz.prog 79 (rel (α:=(St×Int)×Bool) (fun x=>[.agg (encS x.1.1),.int .u8 x.1.2,.bool x.2]) (fun x=>x.1.1.tag.length≤1000∧x.1.1.attr.length≤1000∧0≤x.1.2∧x.1.2<256) (fun x=> .agg (encS (if x.2 then longA x.1.1 (ofI x.1.2) else longT x.1.1 (ofI x.1.2))))):=by
 refine pure_rel 3 (tab_cons low_i tab_nil) mixed [.cell 6 48] Tryz.func79 rfl rfl (by kernel_rfl) (by kernel_rfl) (fun _=>rfl) (by kernel_rfl) ?_
 rintro ⟨⟨⟨m,t,a,b⟩,c⟩,fl⟩ K ⟨h1,h2,h3,h4⟩ hK
 dsimp only at h1 h2
 obtain ⟨c,rfl⟩:=byte_of h3 (by omega)
 have hl1: ∀ b:UInt8,lowS [b]=[low1 b]:=fun _=>rfl
 cases fl<;>unfold entry
 all_goals repeat' (first|((first|apply qwd|apply qa1|apply qcd);(try intro K hk);focus (simp only [lvS2_79,mkT,go_sem,Nat.reduceEqDiff,Nat.reduceAdd,↓reduceIte,reduceCtorEq];first|exact rfl|((repeat refine ai ?_);intros;apply hk;clear hk K)))|apply qw1|refine qwc lvS2_79 ?_|apply qt1|apply qw2|apply qj1|apply qj4)
 all_goals (refine qw10 [] [0,1,3,4,5,6,7,8] [0,1,3,4,5,6,2,7,8,9] ?_ ?_;focus (decide +kernel))
 all_goals repeat' (first|((first|apply qwd|apply qa1|apply qa2|apply qm1|apply qm2|apply qm3|apply qcd);(try intro K hk);focus (simp only [lvS2_79,mkT,go_sem,Nat.reduceEqDiff,Nat.reduceAdd,Nat.reduceLeDiff,Nat.reduceLT,↓reduceIte,reduceCtorEq,hl1,List.length_append];first|exact rfl|((repeat refine ai ?_);intros;apply hk;clear hk K)))|apply qw1|refine qwc lvS2_79 ?_|apply qt1|apply qw2|apply qt3|apply qw4|apply qj1|apply qj4|apply qne|(refine qj6 ?_ ?_<;>intro hc<;>(try simp only [hc])<;>(try simp only [decide_eq_true_eq,decide_eq_false_iff_not] at hc)<;>(try (exfalso;omega)))|(refine qk1 ?_ ?_;focus (repeat (first|exact qsub0|(refine qsub1 ?_ ?_;focus (simp only [go_sem,Nat.reduceEqDiff,Nat.reduceAdd,Nat.reduceLeDiff,Nat.reduceLT,Nat.reduceSub,Int.reduceToNat,↓reduceIte,reduceCtorEq,ofI_nat,hl1,List.length_append]))))))
 all_goals
  ((first|refine fin_ret ?_|refine fin_end ?_);simp only [go_sem,↓upd_def,Nat.reduceAdd,↓reduceIte])
  refine ⟨by omega,K_eq hK ?_⟩
  clear hK
  simp only [ofI_nat,longT,longA,bad,Bool.false_eq_true,if_true,if_false]
  first
   | (rw [if_pos (by omega)];rfl)
   | (rw [if_neg (by omega)];rfl)
theorem nmb_s:PureOk Tryz.prog 151 (byC fun b=> .bool (nmByte b)):=by
 refine pure_rel 1 (tab_cons let_s (tab_cons digb_s tab_nil)) mixed [.tmp 2] Tryz.func151 rfl rfl (by kernel_rfl) (by kernel_rfl) (fun _=>rfl) (by kernel_rfl) ?_
 rintro b K ⟨h1,h2⟩ hK
 unfold entry
 repeat' (first|((first|apply qa1|apply qh1|apply qg1 rfl);(try intro K hk);focus (simp only [go_sem,Nat.reduceEqDiff,↓reduceIte,reduceCtorEq];first|exact rfl|((repeat refine ai ?_);intros;apply hk;clear hk K)))|apply qw8|apply qw1|apply qw6|apply qt1|apply qw4|apply qj2|apply qj3|apply qu1|(refine qj6 ?_ ?_<;>intro hc<;>(try simp only [hc])<;>(try simp only [decide_eq_true_eq,decide_eq_false_iff_not,Bool.not_eq_true',Bool.not_eq_false',Bool.not_eq_true,reduceCtorEq] at hc)<;>(try (exfalso;omega))))
 all_goals
  ((first|refine fin_ret ?_|refine fin_end ?_);simp only [go_sem,↓upd_def,↓reduceIte])
  refine K_bool hK ?_
  clear hK
  unfold nmByte
  have hob:((ofI b).toNat:Int)=b:=by
   obtain ⟨c,rfl⟩:=Int.eq_ofNat_of_zero_le h1
   rw [ofI_cast2 (by omega)]
  simp [*]
  try omega
set_option maxHeartbeats 8000000 in
theorem more_s:PureOk Tryz.prog 149 (rel (α:=(Int×Bs)×(Bs×Bs)) (fun x=>[.int .i64 x.1.1,.str x.1.2,.str x.2.1,.str x.2.2]) (fun x=>x.1.2.length≤1000∧x.2.1.length≤1000∧x.2.2.length≤1000) (fun x=> .agg (encS (moreS x.1.1 x.1.2 x.2.1 x.2.2)))):=by
 refine pure_rel 4 (tab_cons low_s tab_nil) mixed [.cell 8 48] Tryz.func149 rfl rfl (by kernel_rfl) (by kernel_rfl) (fun _=>rfl) (by kernel_rfl) ?_
 rintro ⟨⟨m,t⟩,a,w⟩ K ⟨h1,h2,h3⟩ hK
 dsimp only at h1 h2 h3
 have hll:=lowS_len w
 unfold entry
 repeat' (first|((first|apply qa1|apply qa2|apply qh1|apply qg1 rfl|apply qcd);(try intro K hk);focus (simp only [go_sem,Nat.reduceEqDiff,Nat.reduceAdd,Nat.reduceLeDiff,Nat.reduceLT,↓reduceIte,reduceCtorEq,lowS_len,List.length_append];first|exact rfl|((repeat refine ai ?_);intros;apply hk;clear hk K)))|apply qw8|apply qw1|apply qw6|apply qt1|apply qw2|apply qt3|apply qw4|apply qj1|apply qj2|apply qj3|apply qj4|apply qu1|(refine qj6 ?_ ?_<;>intro hc<;>(try simp only [hc])<;>(try simp only [decide_eq_true_eq,decide_eq_false_iff_not] at hc)<;>(try (exfalso;omega))))
 all_goals
  ((first|refine fin_ret ?_|refine fin_end ?_);simp only [go_sem,↓upd_def,Nat.reduceEqDiff,Nat.reduceAdd,↓reduceIte])
  refine ⟨by omega,K_eq hK ?_⟩
  clear hK
  unfold moreS bad encS
  dsimp only
  grind [lowS_len]
end Go.Proofs.YtnbjogilidfkdaaGreat

/- Contracts: valid states, the program. -/
namespace Go.Proofs.YtnbjogilidfkdaaGreat
attribute [local irreducible] awp arun acalm FinP Fin AX.then AX.inBlock Again aG gsel amix amixN amixC aop aopc aopd cutK
attribute [local go_sem] aBSliceD aSlice aSliceC boundOf aMk aCall aCallC aLenL aLen aPick_t aPick_f aNil aAlloc aBox aBuild bldPV aBSlice bsPV aApp newsOf destOf drp aConvX aConv aConvInt aLoad cellsAt aStore cellsPV setAt aFld aField aIdx aIndex aUn aBin' aBin aMax aExtract pvOf PV.isCell nmbL PV.nmb List.map_cons List.map_nil List.all_cons List.all_nil Bool.and_true Bool.true_and if_true if_false List.getD_cons_zero List.getD_cons_succ List.getD_nil Option.isSome_some true_and and_true and_self eq_self true_or or_true List.drop_zero List.drop_succ_cons List.drop_nil List.take_zero List.take_succ_cons List.take_nil List.length_cons List.length_nil List.length_map Option.getD_some Option.getD_none List.nil_append List.cons_append List.append_nil Option.some.injEq exists_eq_left' List.getElem?_cons_zero List.getElem?_cons_succ Int.toNat_natCast Int.natCast_inj toNat_succ Nat.zero_add res res1 resC owns owns1 ownsC List.flatMap_cons List.flatMap_nil List.flatten_cons List.flatten_nil List.mem_cons List.not_mem_nil or_false false_or forall_eq forall_eq_or_imp isFro frz frz1 pureC tabA isBld List.cons.injEq PV.seq.injEq PV.int.injEq PV.str.injEq PV.bool.injEq PV.agg.injEq inR tab Γof aRes packR Option.map_some Option.map_none rel Prod.exists exists_and_left exists_eq_left and_assoc beq_self_eq_true Bool.not_true Bool.not_false decide_true decide_false List.set_cons_zero List.set_cons_succ rst_nil rst_cons
attribute [local go_sem ↓] evT upd_def aop aopc aopd
set_option maxRecDepth 100000
set_option linter.unusedVariables false
set_option linter.unusedSimpArgs false
open Go.RowKit
def lvS1i_48:Nat→List Nat
 | 0=>[1]
 | 1=>[1,13]
 | 2=>[2]
 | 3=>[1,3]
 | 4=>[1,3,24]
 | 5=>[1,3]
 | 6=>[1,3,30]
 | 7=>[1,3]
 | 8=>[1,3,4]
 | 9=>[1,3,4,49]
 | 10=>[1,3,4]
 | 11=>[1,3,4,5]
 | 12=>[1,3,4,5,63]
 | 13=>[3,4,5]
 | 14=>[1,3,4,5,66]
 | 15=>[3,4,5]
 | 16=>[2]
 | _=>[]
--LV=S1i
set_option maxHeartbeats 8000000 in
theorem sv_i:PureOk Tryz.prog 48 (stC fun s=> .bool (stV s)):=by
 refine pure_rel 1 (tab_cons name_i tab_nil) mixed [.tmp 2] Tryz.func48 rfl rfl (by kernel_rfl) (by kernel_rfl) (fun _=>rfl) (by kernel_rfl) ?_
 rintro ⟨m,t,a,b⟩ K hok hK
 unfold okS at hok
 dsimp only at hok
 obtain ⟨h1,h2⟩:=hok
 unfold entry
 repeat' (first|((first|apply qwd|apply qa1|apply qh1|apply qg1 rfl|apply qcd);(try intro K hk);focus (simp only [lvS1i_48,mkT,go_sem,Nat.reduceEqDiff,↓reduceIte];first|exact rfl|((repeat refine ai ?_);intros;apply hk;clear hk K)))|apply qw1|refine qwc lvS1i_48 ?_|apply qt1|apply qw2|apply qt3|apply qw4|apply qj1|apply qj2|apply qj3|apply qj4|apply qu1|(refine qj6 ?_ ?_<;>intro hc<;>(try simp only [hc])<;>(try simp only [decide_eq_true_eq,decide_eq_false_iff_not] at hc)<;>(try (exfalso;omega))))
 all_goals
  ((first|refine fin_ret ?_|refine fin_end ?_);simp only [go_sem,↓upd_def,↓reduceIte])
  refine K_bool hK ?_
  clear hK
  unfold stV tagOk attrOk seenOk
  dsimp only
  grind
end Go.Proofs.YtnbjogilidfkdaaGreat

/- Contracts: one step of the machine of modes, many steps: the program. -/
namespace Go.Proofs.YtnbjogilidfkdaaGreat
attribute [local irreducible] awp arun acalm FinP Fin AX.then AX.inBlock Again aG gsel amix amixN amixC aop aopc aopd cutK
attribute [local go_sem] aBSliceD aSlice aSliceC boundOf aMk aCall aCallC aLenL aLen aPick_t aPick_f aNil aAlloc aBox aBuild bldPV aBSlice bsPV aApp newsOf destOf drp aConvX aConv aConvInt aLoad cellsAt aStore cellsPV setAt aFld aField aIdx aIndex aUn aBin' aBin aMax aExtract pvOf PV.isCell nmbL PV.nmb List.map_cons List.map_nil List.all_cons List.all_nil Bool.and_true Bool.true_and if_true if_false List.getD_cons_zero List.getD_cons_succ List.getD_nil Option.isSome_some true_and and_true and_self eq_self true_or or_true List.drop_zero List.drop_succ_cons List.drop_nil List.take_zero List.take_succ_cons List.take_nil List.length_cons List.length_nil List.length_map Option.getD_some Option.getD_none List.nil_append List.cons_append List.append_nil Option.some.injEq exists_eq_left' List.getElem?_cons_zero List.getElem?_cons_succ Int.toNat_natCast Int.natCast_inj toNat_succ Nat.zero_add res res1 resC owns owns1 ownsC List.flatMap_cons List.flatMap_nil List.flatten_cons List.flatten_nil List.mem_cons List.not_mem_nil or_false false_or forall_eq forall_eq_or_imp isFro frz frz1 pureC tabA isBld List.cons.injEq PV.seq.injEq PV.int.injEq PV.str.injEq PV.bool.injEq PV.agg.injEq inR tab Γof aRes packR Option.map_some Option.map_none rel Prod.exists exists_and_left exists_eq_left and_assoc beq_self_eq_true Bool.not_true Bool.not_false decide_true decide_false List.set_cons_zero List.set_cons_succ rst_nil rst_cons
attribute [local go_sem ↓] evT upd_def aop aopc aopd
set_option maxRecDepth 100000
set_option linter.unusedVariables false
set_option linter.unusedSimpArgs false
open Go.RowKit
def lvS5_35:Nat→List Nat
 | 0=>[1,2,4]
 | 1=>[1,2,4,5]
 | 2=>[1,2,4,5,9]
 | 3=>[4]
 | 4=>[1,2,4,5,12]
 | 5=>[1,2,4,5,12,13]
 | 6=>[2,4,16]
 | 7=>[2,4]
 | 8=>[4]
 | 9=>[1,2,4,5,12,19]
 | 10=>[1,4,5,21]
 | 11=>[4]
 | 12=>[1,4,5,29]
 | 13=>[4]
 | 14=>[4,5,33]
 | 15=>[4]
 | 16=>[4]
 | 17=>[1,2,4,5,12,38]
 | 18=>[1,2,4,5,12,38]
 | 19=>[1,2,4,5,12,38]
 | 20=>[1,2,4,5,12,38]
 | 21=>[4]
 | 22=>[1,2,4,5,12,46]
 | 23=>[4]
 | 24=>[1,2,4,5,49]
 | 25=>[2,4]
 | 26=>[1,2,4,5,53]
 | 27=>[2,4]
 | 28=>[2,4,5,57]
 | 29=>[2,4]
 | 30=>[4]
 | 31=>[1,2,4,5,12,63]
 | 32=>[1,2,4,5,12,63]
 | 33=>[2,4,81]
 | 34=>[4]
 | 35=>[2,4]
 | 36=>[4]
 | 37=>[1,2,4,5,12,87]
 | 38=>[1,2,4,5,95]
 | 39=>[4]
 | 40=>[1,2,4,5,111]
 | 41=>[4]
 | 42=>[4]
 | 43=>[1,2,4,5,12,116]
 | 44=>[2,4,119]
 | 45=>[4]
 | 46=>[4]
 | 47=>[1,2,4,5,12,122]
 | 48=>[1,2,4,5,12,122]
 | 49=>[1,2,4,125]
 | 50=>[4]
 | 51=>[1,2,4,129]
 | 52=>[4]
 | 53=>[4,133]
 | 54=>[4]
 | 55=>[4]
 | 56=>[1,2,4,5,12,143]
 | 57=>[2,4,5,145]
 | 58=>[2,4,5,145,146]
 | 59=>[4]
 | 60=>[2,4,5,145,149]
 | 61=>[4]
 | 62=>[2,4,5,152]
 | 63=>[4]
 | 64=>[4]
 | 65=>[1,4,5,156]
 | 66=>[4,5,159]
 | 67=>[4]
 | 68=>[4]
 | _=>[]
def lvS5_76:Nat→List Nat
 | 0=>[1,2,4]
 | 1=>[1,2,4,6]
 | 2=>[4]
 | 3=>[1,2,4,15]
 | 4=>[4]
 | 5=>[1,2,4,19]
 | 6=>[4]
 | 7=>[1,2,4,5]
 | 8=>[1,2,4,5,35]
 | 9=>[4]
 | 10=>[1,2,4,5,45]
 | 11=>[1,2,4]
 | 12=>[4]
 | 13=>[1,2,4,57]
 | 14=>[4]
 | 15=>[1,2,4,67]
 | 16=>[2,4]
 | 17=>[4]
 | 18=>[2,4,77]
 | 19=>[4]
 | 20=>[4]
 | _=>[]
--LV=S5
set_option maxHeartbeats 8000000 in
theorem stag_i:PureOk Tryz.prog 76 (sbC (fun s=>stV s=true∧(s.mode=2∨s.mode=3∨s.mode=4∨s.mode=8)) stepTagM):=by
 refine pure_rel 2 (tab_cons let_i (tab_cons digb_i (tab_cons long_i (tab_cons bare_i tab_nil)))) mixed [.cell 4 48] Tryz.func76 rfl rfl (by kernel_rfl) (by kernel_rfl) (fun _=>rfl) (by kernel_rfl) ?_
 rintro ⟨⟨m,t,a,b⟩,c⟩ K ⟨h1,h2,hv,h4⟩ hK
 dsimp only at *
 obtain ⟨c,rfl⟩:=byte_of h1 (by omega)
 rw [ofI_nat] at hK
 obtain ⟨hl1,hl2⟩:=stV_len hv
 have g0:= @stV_tag0 _ hv
 have g1:= @stV_attr0 _ hv
 have g2:= @stV_seen0 _ hv
 have g3:= @stV_seen8 _ hv
 have hbn:=bare_nm c
 have hnm:nmByte c=(isLet c || isDig c || decide (c.toNat=45)):=rfl
 obtain ⟨q1,q2⟩:=cls_byte c
 dsimp only at hl1 hl2 g0 g1 g2 g3
 clear hv
 have hscr:script=[115,99,114,105,112,116]:=rfl
 rcases h4 with rfl|rfl|rfl|rfl
 · have e1:=g1 (by decide)
   have e2:=g2 (by decide)
   subst e1 e2
   clear g0 g1 g2 g3
   rw [stepTagM] at hK
   unfold entry
   repeat' (first|((first|apply qwd|apply qa1|apply qa2|apply qh1|apply qg1 rfl|apply qcd);(try intro K hk);focus (simp only [lvS5_76,mkT,go_sem,Nat.reduceEqDiff,Nat.reduceAdd,Nat.reduceLeDiff,Nat.reduceLT,↓reduceIte,reduceCtorEq,encS_eq,ex_St,List.length_cons,List.length_nil,ofI_nat,Int.reduceEq,decide_true,decide_false,Bool.and_true,Bool.false_eq_true];first|exact rfl|((repeat refine ai ?_);intros;apply hk;clear hk K)))|apply qw1|refine qwc lvS5_76 ?_|apply qt1|apply qw5|apply qw2|apply qt3|apply qt4|apply qt6|apply qw4|apply qj1|apply qj2|apply qj3|apply qj4|apply qu1|(refine qj6 ?_ ?_<;>intro hc<;>(try simp only [hc])<;>(try simp only [decide_eq_true_eq,decide_eq_false_iff_not] at hc)<;>(try (exfalso;omega))))
   all_goals
    ((first|refine fin_ret ?_|refine fin_end ?_);simp only [go_sem,↓upd_def,Nat.reduceAdd,↓reduceIte])
    refine ⟨by omega,K_eq hK ?_⟩
    clear hK
    try rw [moreS_t (by decide)]
    try rw [moreS_a (by omega)]
    (repeat' split)<;>first|rfl|(exfalso;omega)|(exfalso;simp_all;done)|(exfalso;simp_all;omega)|(simp_all;done)
 · have e1:=g1 (by decide)
   have e2:=g2 (by decide)
   subst e1 e2
   clear g0 g1 g2 g3
   rw [stepTagM] at hK
   unfold entry
   repeat' (first|((first|apply qwd|apply qa1|apply qa2|apply qh1|apply qg1 rfl|apply qcd);(try intro K hk);focus (simp only [lvS5_76,mkT,go_sem,Nat.reduceEqDiff,Nat.reduceAdd,Nat.reduceLeDiff,Nat.reduceLT,↓reduceIte,reduceCtorEq,encS_eq,ex_St,List.length_cons,List.length_nil,ofI_nat,Int.reduceEq,decide_true,decide_false,Bool.and_true,Bool.false_eq_true];first|exact rfl|((repeat refine ai ?_);intros;apply hk;clear hk K)))|apply qw1|refine qwc lvS5_76 ?_|apply qt1|apply qw5|apply qw2|apply qt3|apply qt4|apply qt6|apply qw4|apply qj1|apply qj2|apply qj3|apply qj4|apply qu1|(refine qj6 ?_ ?_<;>intro hc<;>(try simp only [hc])<;>(try simp only [decide_eq_true_eq,decide_eq_false_iff_not] at hc)<;>(try (exfalso;omega))))
   all_goals
    ((first|refine fin_ret ?_|refine fin_end ?_);simp only [go_sem,↓upd_def,Nat.reduceAdd,↓reduceIte])
    refine ⟨by omega,K_eq hK ?_⟩
    clear hK
    try rw [moreS_t (by decide)]
    try rw [moreS_a (by omega)]
    (repeat' split)<;>first|rfl|(exfalso;omega)|(exfalso;simp_all;done)|(exfalso;simp_all;omega)|(simp_all;done)
 · have e2:=g2 (by decide)
   subst e2
   clear g0 g1 g2 g3
   rw [stepTagM] at hK
   unfold entry
   repeat' (first|((first|apply qwd|apply qa1|apply qa2|apply qh1|apply qg1 rfl|apply qcd);(try intro K hk);focus (simp only [lvS5_76,mkT,go_sem,Nat.reduceEqDiff,Nat.reduceAdd,Nat.reduceLeDiff,Nat.reduceLT,↓reduceIte,reduceCtorEq,encS_eq,ex_St,List.length_cons,List.length_nil,ofI_nat,Int.reduceEq,decide_true,decide_false,Bool.and_true,Bool.false_eq_true];first|exact rfl|((repeat refine ai ?_);intros;apply hk;clear hk K)))|apply qw1|refine qwc lvS5_76 ?_|apply qt1|apply qw5|apply qw2|apply qt3|apply qt4|apply qt6|apply qw4|apply qj1|apply qj2|apply qj3|apply qj4|apply qu1|(refine qj6 ?_ ?_<;>intro hc<;>(try simp only [hc])<;>(try simp only [decide_eq_true_eq,decide_eq_false_iff_not] at hc)<;>(try (exfalso;omega))))
   all_goals
    ((first|refine fin_ret ?_|refine fin_end ?_);simp only [go_sem,↓upd_def,Nat.reduceAdd,↓reduceIte])
    refine ⟨by omega,K_eq hK ?_⟩
    clear hK
    try rw [moreS_t (by decide)]
    try rw [moreS_a (by omega)]
    (repeat' split)<;>first|rfl|(exfalso;omega)|(exfalso;simp_all;done)|(exfalso;simp_all;omega)|(simp_all;done)
 · have e2:=g3 rfl
   subst e2
   clear g0 g1 g2 g3
   rw [stepTagM] at hK
   unfold entry
   repeat' (first|((first|apply qwd|apply qa1|apply qa2|apply qh1|apply qg1 rfl|apply qcd);(try intro K hk);focus (simp only [lvS5_76,mkT,go_sem,Nat.reduceEqDiff,Nat.reduceAdd,Nat.reduceLeDiff,Nat.reduceLT,↓reduceIte,reduceCtorEq,encS_eq,List.length_cons,List.length_nil,ofI_nat,Int.reduceEq,decide_true,decide_false,Bool.and_true,Bool.false_eq_true];first|exact rfl|((repeat refine ai ?_);intros;apply hk;clear hk K)))|apply qw1|refine qwc lvS5_76 ?_|apply qt1|apply qw5|apply qw2|apply qt3|apply qt4|apply qt6|apply qw4|apply qj1|apply qj2|apply qj3|apply qj4|apply qu1|(refine qj6 ?_ ?_<;>intro hc<;>(try simp only [hc])<;>(try simp only [decide_eq_true_eq,decide_eq_false_iff_not] at hc)<;>(try (exfalso;omega))))
   all_goals
    ((first|refine fin_ret ?_|refine fin_end ?_);simp only [go_sem,↓upd_def,Nat.reduceAdd,↓reduceIte])
    refine ⟨by omega,K_eq hK ?_⟩
    clear hK
    try rw [moreS_t (by decide)]
    try rw [moreS_a (by omega)]
    (repeat' split)<;>first|rfl|(exfalso;omega)|(exfalso;simp_all;done)|(exfalso;simp_all;omega)|(simp_all;done)
set_option maxHeartbeats 8000000 in
theorem step_i:PureOk Tryz.prog 35 (sbC okS step):=by
 refine pure_rel 2 (tab_cons sv_i (tab_cons let_i (tab_cons digb_i (tab_cons low_i (tab_cons stag_i (tab_cons bare_i (tab_cons long_i tab_nil))))))) mixed [.cell 4 48] Tryz.func35 rfl rfl (by kernel_rfl) (by kernel_rfl) (fun _=>rfl) (by kernel_rfl) ?_
 rintro ⟨⟨m,t,a,b⟩,c⟩ K ⟨h1,h2,hok⟩ hK
 dsimp only at *
 obtain ⟨c,rfl⟩:=byte_of h1 (by omega)
 rw [ofI_nat] at hK
 cases hv:stV ⟨m,t,a,b⟩ with
 | false =>
   rw [step_bad' hv] at hK
   unfold entry
   repeat' (first|((first|apply qwd|apply qa1|apply qa2|apply qcd);(try intro K hk);focus (simp only [lvS5_35,mkT,go_sem,Nat.reduceEqDiff,Nat.reduceAdd,Nat.reduceLeDiff,Nat.reduceLT,↓reduceIte,reduceCtorEq,encS_eq,ex_St,List.length_cons,List.length_nil,Bool.not_false,Bool.and_true,Bool.false_eq_true,hv];first|exact rfl|((repeat refine ai ?_);intros;apply hk;clear hk K)))|apply qw1|refine qwc lvS5_35 ?_|apply qt1|apply qt3|apply qw4|apply qj1)
   ((first|refine fin_ret ?_|refine fin_end ?_);simp only [go_sem,↓upd_def,Nat.reduceAdd,↓reduceIte])
   exact ⟨by omega,hK⟩
 | true =>
 rw [step_val hv] at hK
 obtain ⟨hl1,hl2⟩:=stV_len hv
 have g0:= @stV_tag0 _ hv
 have g1:= @stV_attr0 _ hv
 have g2:= @stV_seen0 _ hv
 have g3:= @stV_seen8 _ hv
 have hbn:=bare_nm c
 have hnm:nmByte c=(isLet c || isDig c || decide (c.toNat=45)):=rfl
 obtain ⟨q1,q2⟩:=cls_byte c
 dsimp only at hl1 hl2 g0 g1 g2 g3
 have hmo:=modes hv
 dsimp only at hmo
 rcases hmo with rfl|rfl|(rfl|rfl|rfl|rfl)|rfl|rfl|rfl|rfl|rfl|rfl|rfl|rfl|rfl|rfl
 · have e0:=g0 (by decide)
   have e1:=g1 (by decide)
   have e2:=g2 (by decide)
   subst e0 e1 e2
   clear g0 g1 g2 g3
   rw [stepV_0 rfl] at hK
   unfold entry
   repeat' (first|((first|apply qwd|apply qa1|apply qa2|apply qcd);(try intro K hk);focus (simp only [lvS5_35,mkT,go_sem,Nat.reduceEqDiff,Nat.reduceAdd,Nat.reduceLeDiff,Nat.reduceLT,↓reduceIte,reduceCtorEq,encS_eq,ex_St,List.length_cons,List.length_nil,decide_true,Bool.not_true,Bool.and_true,Bool.false_eq_true,hv];first|exact rfl|((repeat refine ai ?_);intros;apply hk;clear hk K)))|apply qw1|refine qwc lvS5_35 ?_|apply qt1|apply qw5|apply qw2|apply qt3|apply qt6|apply qw4|apply qj1|apply qj4|(refine qj6 ?_ ?_<;>intro hc<;>(try simp only [hc])<;>(try simp only [decide_eq_true_eq,decide_eq_false_iff_not] at hc)<;>(try (exfalso;omega))))
   all_goals
    ((first|refine fin_ret ?_|refine fin_end ?_);simp only [go_sem,↓upd_def,Nat.reduceAdd,↓reduceIte])
    refine ⟨by omega,K_eq hK ?_⟩
    clear hK
    try rw [moreS_t (by decide)]
    try rw [moreS_a (by omega)]
    (repeat' split)<;>first|rfl|(exfalso;omega)|(exfalso;simp_all;done)|(exfalso;simp_all;omega)|(simp_all;done)
 · have e0:=g0 (by decide)
   have e1:=g1 (by decide)
   have e2:=g2 (by decide)
   subst e0 e1 e2
   clear g0 g1 g2 g3
   rw [stepV_1 rfl] at hK
   unfold entry
   repeat' (first|((first|apply qwd|apply qa1|apply qa2|apply qcd);(try intro K hk);focus (simp only [lvS5_35,mkT,go_sem,Nat.reduceEqDiff,Nat.reduceAdd,Nat.reduceLeDiff,Nat.reduceLT,↓reduceIte,reduceCtorEq,encS_eq,ex_St,List.length_cons,List.length_nil,ofI_nat,Int.reduceEq,decide_true,decide_false,Bool.not_true,Bool.and_true,Bool.false_eq_true,low_one,hv];first|exact rfl|((repeat refine ai ?_);intros;apply hk;clear hk K)))|apply qw1|refine qwc lvS5_35 ?_|apply qt1|apply qw5|apply qw2|apply qt3|apply qt4|apply qt6|apply qw4|apply qj1|apply qj4|(refine qj6 ?_ ?_<;>intro hc<;>(try simp only [hc])<;>(try simp only [decide_eq_true_eq,decide_eq_false_iff_not] at hc)<;>(try (exfalso;omega))))
   all_goals
    ((first|refine fin_ret ?_|refine fin_end ?_);simp only [go_sem,↓upd_def,Nat.reduceAdd,↓reduceIte])
    refine ⟨by omega,K_eq hK ?_⟩
    clear hK
    try rw [moreS_t (by decide)]
    try rw [moreS_a (by omega)]
    (repeat' split)<;>first|rfl|(exfalso;omega)|(exfalso;simp_all;done)|(exfalso;simp_all;omega)|(simp_all;done)
 · clear g0 g1 g2 g3
   rw [stepV_t (by simp)] at hK
   unfold entry
   repeat' (first|((first|apply qwd|apply qa1|apply qa2|apply qcd);(try intro K hk);focus (simp only [lvS5_35,mkT,go_sem,Nat.reduceEqDiff,Nat.reduceAdd,Nat.reduceLeDiff,Nat.reduceLT,↓reduceIte,reduceCtorEq,encS_eq,ex_St,List.length_cons,List.length_nil,ofI_nat,Int.reduceEq,decide_true,decide_false,Bool.not_true,Bool.and_true,Bool.false_eq_true,hv];first|exact rfl|((repeat refine ai ?_);intros;apply hk;clear hk K)))|apply qw1|refine qwc lvS5_35 ?_|apply qt1|apply qw5|apply qw2|apply qt3|apply qt6|apply qw4|apply qj1|apply qj4)
   all_goals
    ((first|refine fin_ret ?_|refine fin_end ?_);simp only [go_sem,↓upd_def,Nat.reduceAdd,↓reduceIte])
    exact ⟨by omega,hK⟩
 · clear g0 g1 g2 g3
   rw [stepV_t (by simp)] at hK
   unfold entry
   repeat' (first|((first|apply qwd|apply qa1|apply qa2|apply qcd);(try intro K hk);focus (simp only [lvS5_35,mkT,go_sem,Nat.reduceEqDiff,Nat.reduceAdd,Nat.reduceLeDiff,Nat.reduceLT,↓reduceIte,reduceCtorEq,encS_eq,ex_St,List.length_cons,List.length_nil,ofI_nat,Int.reduceEq,decide_true,decide_false,Bool.not_true,Bool.and_true,Bool.false_eq_true,hv];first|exact rfl|((repeat refine ai ?_);intros;apply hk;clear hk K)))|apply qw1|refine qwc lvS5_35 ?_|apply qt1|apply qw5|apply qw2|apply qt3|apply qt6|apply qw4|apply qj1|apply qj4)
   all_goals
    ((first|refine fin_ret ?_|refine fin_end ?_);simp only [go_sem,↓upd_def,Nat.reduceAdd,↓reduceIte])
    exact ⟨by omega,hK⟩
 · clear g0 g1 g2 g3
   rw [stepV_t (by simp)] at hK
   unfold entry
   repeat' (first|((first|apply qwd|apply qa1|apply qa2|apply qcd);(try intro K hk);focus (simp only [lvS5_35,mkT,go_sem,Nat.reduceEqDiff,Nat.reduceAdd,Nat.reduceLeDiff,Nat.reduceLT,↓reduceIte,reduceCtorEq,encS_eq,ex_St,List.length_cons,List.length_nil,ofI_nat,Int.reduceEq,decide_true,decide_false,Bool.not_true,Bool.and_true,Bool.false_eq_true,hv];first|exact rfl|((repeat refine ai ?_);intros;apply hk;clear hk K)))|apply qw1|refine qwc lvS5_35 ?_|apply qt1|apply qw5|apply qw2|apply qt3|apply qt6|apply qw4|apply qj1|apply qj4)
   all_goals
    ((first|refine fin_ret ?_|refine fin_end ?_);simp only [go_sem,↓upd_def,Nat.reduceAdd,↓reduceIte])
    exact ⟨by omega,hK⟩
 · clear g0 g1 g2 g3
   rw [stepV_t (by simp)] at hK
   unfold entry
   repeat' (first|((first|apply qwd|apply qa1|apply qa2|apply qcd);(try intro K hk);focus (simp only [lvS5_35,mkT,go_sem,Nat.reduceEqDiff,Nat.reduceAdd,Nat.reduceLeDiff,Nat.reduceLT,↓reduceIte,reduceCtorEq,encS_eq,ex_St,List.length_cons,List.length_nil,ofI_nat,Int.reduceEq,decide_true,decide_false,Bool.not_true,Bool.and_true,Bool.false_eq_true,hv];first|exact rfl|((repeat refine ai ?_);intros;apply hk;clear hk K)))|apply qw1|refine qwc lvS5_35 ?_|apply qt1|apply qw5|apply qw2|apply qt3|apply qt6|apply qw4|apply qj1|apply qj4)
   all_goals
    ((first|refine fin_ret ?_|refine fin_end ?_);simp only [go_sem,↓upd_def,Nat.reduceAdd,↓reduceIte])
    exact ⟨by omega,hK⟩
 · have e2:=g2 (by decide)
   subst e2
   clear g0 g1 g2 g3
   rw [stepV_5 rfl] at hK
   unfold entry
   repeat' (first|((first|apply qwd|apply qa1|apply qa2|apply qcd);(try intro K hk);focus (simp only [lvS5_35,mkT,go_sem,Nat.reduceEqDiff,Nat.reduceAdd,Nat.reduceLeDiff,Nat.reduceLT,↓reduceIte,reduceCtorEq,encS_eq,ex_St,List.length_cons,List.length_nil,ofI_nat,Int.reduceEq,decide_true,decide_false,Bool.not_true,Bool.and_true,Bool.false_eq_true,hv];first|exact rfl|((repeat refine ai ?_);intros;apply hk;clear hk K)))|apply qw1|refine qwc lvS5_35 ?_|apply qt1|apply qw5|apply qw2|apply qt3|apply qt4|apply qt6|apply qw4|apply qj1|apply qj4|(refine qj6 ?_ ?_<;>intro hc<;>(try simp only [hc])<;>(try simp only [decide_eq_true_eq,decide_eq_false_iff_not] at hc)<;>(try (exfalso;omega))))
   all_goals
    ((first|refine fin_ret ?_|refine fin_end ?_);simp only [go_sem,↓upd_def,Nat.reduceAdd,↓reduceIte])
    refine ⟨by omega,K_eq hK ?_⟩
    clear hK
    try rw [moreS_t (by decide)]
    try rw [moreS_a (by omega)]
    (repeat' split)<;>first|rfl|(exfalso;omega)|(exfalso;simp_all;done)|(exfalso;simp_all;omega)|(simp_all;done)
 · clear g0 g1 g2 g3
   rw [stepV_6 rfl] at hK
   unfold entry
   repeat' (first|((first|apply qwd|apply qa1|apply qa2|apply qh1|apply qg1 rfl|apply qcd);(try intro K hk);focus (simp only [lvS5_35,mkT,go_sem,Nat.reduceEqDiff,Nat.reduceAdd,Nat.reduceLeDiff,Nat.reduceLT,↓reduceIte,reduceCtorEq,encS_eq,ex_St,List.length_cons,List.length_nil,Int.reduceEq,decide_true,decide_false,Bool.not_true,Bool.and_true,Bool.false_eq_true,hv];first|exact rfl|((repeat refine ai ?_);intros;apply hk;clear hk K)))|apply qw1|refine qwc lvS5_35 ?_|apply qt1|apply qw5|apply qw2|apply qt3|apply qt6|apply qw4|apply qj1|apply qj2|apply qj3|apply qj4|apply qj5|apply qu1|(refine qj6 ?_ ?_<;>intro hc<;>(try simp only [hc])<;>(try simp only [decide_eq_true_eq,decide_eq_false_iff_not] at hc)<;>(try (exfalso;omega))))
   all_goals
    ((first|refine fin_ret ?_|refine fin_end ?_);simp only [go_sem,↓upd_def,Nat.reduceAdd,↓reduceIte])
    refine ⟨by omega,K_eq hK ?_⟩
    clear hK
    try rw [moreS_t (by decide)]
    try rw [moreS_a (by omega)]
    (repeat' split)<;>first|rfl|(exfalso;omega)|(exfalso;simp_all;done)|(exfalso;simp_all;omega)|(simp_all;done)
 · clear g0 g1 g2 g3
   rw [stepV_7 rfl] at hK
   unfold entry
   repeat' (first|((first|apply qwd|apply qa1|apply qa2|apply qh1|apply qg1 rfl|apply qcd);(try intro K hk);focus (simp only [lvS5_35,mkT,go_sem,Nat.reduceEqDiff,Nat.reduceAdd,Nat.reduceLeDiff,Nat.reduceLT,↓reduceIte,reduceCtorEq,encS_eq,ex_St,List.length_cons,List.length_nil,Int.reduceEq,decide_true,decide_false,Bool.not_true,Bool.and_true,Bool.false_eq_true,hv];first|exact rfl|((repeat refine ai ?_);intros;apply hk;clear hk K)))|apply qw1|refine qwc lvS5_35 ?_|apply qt1|apply qw5|apply qw2|apply qt3|apply qt6|apply qw4|apply qj1|apply qj2|apply qj4|apply qu1|(refine qj6 ?_ ?_<;>intro hc<;>(try simp only [hc])<;>(try simp only [decide_eq_true_eq,decide_eq_false_iff_not] at hc)<;>(try (exfalso;omega))))
   all_goals
    ((first|refine fin_ret ?_|refine fin_end ?_);simp only [go_sem,↓upd_def,Nat.reduceAdd,↓reduceIte])
    refine ⟨by omega,K_eq hK ?_⟩
    clear hK
    try rw [moreS_t (by decide)]
    try rw [moreS_a (by omega)]
    (repeat' split)<;>first|rfl|(exfalso;omega)|(exfalso;simp_all;done)|(exfalso;simp_all;omega)|(simp_all;done)
 · have e1:=g1 (by decide)
   have e2:=g2 (by decide)
   subst e1 e2
   clear g0 g1 g2 g3
   rw [stepV_9 rfl] at hK
   unfold entry
   repeat' (first|((first|apply qwd|apply qa1|apply qa2|apply qh1|apply qg1 rfl|apply qcd);(try intro K hk);focus (simp only [lvS5_35,mkT,go_sem,Nat.reduceEqDiff,Nat.reduceAdd,Nat.reduceLeDiff,Nat.reduceLT,↓reduceIte,reduceCtorEq,encS_eq,ex_St,List.length_cons,List.length_nil,ofI_nat,Int.reduceEq,decide_true,decide_false,Bool.not_true,Bool.and_true,Bool.false_eq_true,hv];first|exact rfl|((repeat refine ai ?_);intros;apply hk;clear hk K)))|apply qw1|refine qwc lvS5_35 ?_|apply qt1|apply qw5|apply qw2|apply qt3|apply qt6|apply qw4|apply qj1|apply qj2|apply qj3|apply qj4|apply qj5|apply qu1|(refine qj6 ?_ ?_<;>intro hc<;>(try simp only [hc])<;>(try simp only [decide_eq_true_eq,decide_eq_false_iff_not,Bool.not_eq_true',Bool.not_eq_false'] at hc)<;>(try (exfalso;omega))))
   all_goals
    ((first|refine fin_ret ?_|refine fin_end ?_);simp only [go_sem,↓upd_def,Nat.reduceAdd,↓reduceIte])
    refine ⟨by omega,K_eq hK ?_⟩
    clear hK
    try rw [moreS_t (by decide)]
    try rw [moreS_a (by omega)]
    (repeat' split)<;>first|rfl|(exfalso;omega)|(exfalso;simp_all;done)|(exfalso;simp_all;omega)|(simp_all;done)
 · have e0:=g0 (by decide)
   have e1:=g1 (by decide)
   have e2:=g2 (by decide)
   subst e0 e1 e2
   clear g0 g1 g2 g3
   rw [stepV_10 rfl] at hK
   unfold entry
   repeat' (first|((first|apply qwd|apply qa1|apply qa2|apply qcd);(try intro K hk);focus (simp only [lvS5_35,mkT,go_sem,Nat.reduceEqDiff,Nat.reduceAdd,Nat.reduceLeDiff,Nat.reduceLT,↓reduceIte,reduceCtorEq,encS_eq,ex_St,List.length_cons,List.length_nil,Int.reduceEq,decide_true,decide_false,Bool.not_true,Bool.and_true,Bool.false_eq_true,hv];first|exact rfl|((repeat refine ai ?_);intros;apply hk;clear hk K)))|apply qw1|refine qwc lvS5_35 ?_|apply qt1|apply qw5|apply qw2|apply qt3|apply qt6|apply qw4|apply qj1|apply qj4|(refine qj6 ?_ ?_<;>intro hc<;>(try simp only [hc])<;>(try simp only [decide_eq_true_eq,decide_eq_false_iff_not] at hc)<;>(try (exfalso;omega))))
   all_goals
    ((first|refine fin_ret ?_|refine fin_end ?_);simp only [go_sem,↓upd_def,Nat.reduceAdd,↓reduceIte])
    refine ⟨by omega,K_eq hK ?_⟩
    clear hK
    try rw [moreS_t (by decide)]
    try rw [moreS_a (by omega)]
    (repeat' split)<;>first|rfl|(exfalso;omega)|(exfalso;simp_all;done)|(exfalso;simp_all;omega)|(simp_all;done)
 · have e0:=g0 (by decide)
   have e1:=g1 (by decide)
   have e2:=g2 (by decide)
   subst e0 e1 e2
   clear g0 g1 g2 g3
   rw [stepV_11 rfl] at hK
   unfold entry
   repeat' (first|((first|apply qwd|apply qa1|apply qa2|apply qh1|apply qg1 rfl|apply qcd);(try intro K hk);focus (simp only [lvS5_35,mkT,go_sem,Nat.reduceEqDiff,Nat.reduceAdd,Nat.reduceLeDiff,Nat.reduceLT,↓reduceIte,reduceCtorEq,encS_eq,ex_St,List.length_cons,List.length_nil,Int.reduceEq,decide_true,decide_false,Bool.not_true,Bool.and_true,Bool.false_eq_true,hv];first|exact rfl|((repeat refine ai ?_);intros;apply hk;clear hk K)))|apply qw1|refine qwc lvS5_35 ?_|apply qt1|apply qw5|apply qw2|apply qt3|apply qt4|apply qt6|apply qw4|apply qj1|apply qj4|apply qu1|(refine qj6 ?_ ?_<;>intro hc<;>(try simp only [hc])<;>(try simp only [decide_eq_true_eq,decide_eq_false_iff_not] at hc)<;>(try (exfalso;omega))))
   all_goals
    ((first|refine fin_ret ?_|refine fin_end ?_);simp only [go_sem,↓upd_def,Nat.reduceAdd,↓reduceIte])
    refine ⟨by omega,K_eq hK ?_⟩
    clear hK
    try rw [moreS_t (by decide)]
    try rw [moreS_a (by omega)]
    (repeat' split)<;>first|rfl|(exfalso;omega)|(exfalso;simp_all;done)|(exfalso;simp_all;omega)|(simp_all;done)
 · have e0:=g0 (by decide)
   have e1:=g1 (by decide)
   have e2:=g2 (by decide)
   subst e0 e1 e2
   clear g0 g1 g2 g3
   rw [stepV_12 rfl] at hK
   unfold entry
   repeat' (first|((first|apply qwd|apply qa1|apply qa2|apply qcd);(try intro K hk);focus (simp only [lvS5_35,mkT,go_sem,Nat.reduceEqDiff,Nat.reduceAdd,Nat.reduceLeDiff,Nat.reduceLT,↓reduceIte,reduceCtorEq,encS_eq,ex_St,List.length_cons,List.length_nil,Int.reduceEq,decide_true,decide_false,Bool.not_true,Bool.and_true,Bool.false_eq_true,hv];first|exact rfl|((repeat refine ai ?_);intros;apply hk;clear hk K)))|apply qw1|refine qwc lvS5_35 ?_|apply qt1|apply qw5|apply qw2|apply qt3|apply qt4|apply qt6|apply qw4|apply qj1|apply qj4|(refine qj6 ?_ ?_<;>intro hc<;>(try simp only [hc])<;>(try simp only [decide_eq_true_eq,decide_eq_false_iff_not] at hc)<;>(try (exfalso;omega))))
   all_goals
    ((first|refine fin_ret ?_|refine fin_end ?_);simp only [go_sem,↓upd_def,Nat.reduceAdd,↓reduceIte])
    refine ⟨by omega,K_eq hK ?_⟩
    clear hK
    try rw [moreS_t (by decide)]
    try rw [moreS_a (by omega)]
    (repeat' split)<;>first|rfl|(exfalso;omega)|(exfalso;simp_all;done)|(exfalso;simp_all;omega)|(simp_all;done)
 · have e0:=g0 (by decide)
   have e1:=g1 (by decide)
   have e2:=g2 (by decide)
   subst e0 e1 e2
   clear g0 g1 g2 g3
   rw [stepV_13 rfl] at hK
   unfold entry
   repeat' (first|((first|apply qwd|apply qa1|apply qa2|apply qcd);(try intro K hk);focus (simp only [lvS5_35,mkT,go_sem,Nat.reduceEqDiff,Nat.reduceAdd,Nat.reduceLeDiff,Nat.reduceLT,↓reduceIte,reduceCtorEq,encS_eq,ex_St,List.length_cons,List.length_nil,Int.reduceEq,decide_true,decide_false,Bool.not_true,Bool.and_true,Bool.false_eq_true,hv];first|exact rfl|((repeat refine ai ?_);intros;apply hk;clear hk K)))|apply qw1|refine qwc lvS5_35 ?_|apply qt1|apply qw5|apply qw2|apply qt3|apply qt4|apply qt6|apply qw4|apply qj1|apply qj4|(refine qj6 ?_ ?_<;>intro hc<;>(try simp only [hc])<;>(try simp only [decide_eq_true_eq,decide_eq_false_iff_not,Bool.not_eq_true',Bool.not_eq_false'] at hc)<;>(try (exfalso;omega))))
   all_goals
    ((first|refine fin_ret ?_|refine fin_end ?_);simp only [go_sem,↓upd_def,Nat.reduceAdd,↓reduceIte])
    refine ⟨by omega,K_eq hK ?_⟩
    clear hK
    try rw [moreS_t (by decide)]
    try rw [moreS_a (by omega)]
    (repeat' split)<;>first|rfl|(exfalso;omega)|(exfalso;simp_all;done)|(exfalso;simp_all;omega)|(simp_all;done)
 · have e0:=g0 (by decide)
   have e1:=g1 (by decide)
   have e2:=g2 (by decide)
   subst e0 e1 e2
   clear g0 g1 g2 g3
   rw [stepV_14 rfl] at hK
   unfold entry
   repeat' (first|((first|apply qwd|apply qa1|apply qa2|apply qh1|apply qg1 rfl|apply qcd);(try intro K hk);focus (simp only [lvS5_35,mkT,go_sem,Nat.reduceEqDiff,Nat.reduceAdd,Nat.reduceLeDiff,Nat.reduceLT,↓reduceIte,reduceCtorEq,encS_eq,ex_St,List.length_cons,List.length_nil,Int.reduceEq,decide_true,decide_false,Bool.not_true,Bool.and_true,Bool.false_eq_true,hv];first|exact rfl|((repeat refine ai ?_);intros;apply hk;clear hk K)))|apply qw1|refine qwc lvS5_35 ?_|apply qt1|apply qw5|apply qw2|apply qt3|apply qt4|apply qt6|apply qw4|apply qj1|apply qj4|apply qu1|(refine qj6 ?_ ?_<;>intro hc<;>(try simp only [hc])<;>(try simp only [decide_eq_true_eq,decide_eq_false_iff_not] at hc)<;>(try (exfalso;omega))))
   all_goals
    ((first|refine fin_ret ?_|refine fin_end ?_);simp only [go_sem,↓upd_def,Nat.reduceAdd,↓reduceIte])
    refine ⟨by omega,K_eq hK ?_⟩
    clear hK
    try rw [moreS_t (by decide)]
    try rw [moreS_a (by omega)]
    (repeat' split)<;>first|rfl|(exfalso;omega)|(exfalso;simp_all;done)|(exfalso;simp_all;omega)|(simp_all;done)
 · have e0:=g0 (by decide)
   have e1:=g1 (by decide)
   have e2:=g2 (by decide)
   subst e0 e1 e2
   clear g0 g1 g2 g3
   rw [stepV_15 rfl] at hK
   unfold entry
   repeat' (first|((first|apply qwd|apply qa1|apply qa2|apply qcd);(try intro K hk);focus (simp only [lvS5_35,mkT,go_sem,Nat.reduceEqDiff,Nat.reduceAdd,Nat.reduceLeDiff,Nat.reduceLT,↓reduceIte,reduceCtorEq,encS_eq,ex_St,List.length_cons,List.length_nil,Int.reduceEq,decide_false,Bool.not_true,Bool.and_true,Bool.false_eq_true,hv];first|exact rfl|((repeat refine ai ?_);intros;apply hk;clear hk K)))|apply qw1|refine qwc lvS5_35 ?_|apply qt1|apply qw5|apply qw2|apply qt4|apply qw4|apply qj4)
   all_goals
    ((first|refine fin_ret ?_|refine fin_end ?_);simp only [go_sem,↓upd_def,Nat.reduceAdd,↓reduceIte])
    refine ⟨by omega,K_eq hK ?_⟩
    clear hK
    try rw [moreS_t (by decide)]
    try rw [moreS_a (by omega)]
    (repeat' split)<;>first|rfl|(exfalso;omega)|(exfalso;simp_all;done)|(exfalso;simp_all;omega)|(simp_all;done)
set_option maxHeartbeats 8000000 in
theorem after_i:PureOk Tryz.prog 21 saC:=by
 refine pure_rel 2 (tab_cons sv_i (tab_cons step_i tab_nil)) mixed [.cell 4 48] Tryz.func21 rfl rfl (by kernel_rfl) (by kernel_rfl) (fun _=>rfl) (by kernel_rfl) ?_
 rintro ⟨⟨m,t,a,b⟩,x⟩ K ⟨hok,hl⟩ hK
 dsimp only at *
 cases hv:stV ⟨m,t,a,b⟩ with
 | false =>
   have e:afterS ⟨m,t,a,b⟩ x=bad:=by unfold afterS;rw [hv];rfl
   rw [e] at hK
   unfold entry
   repeat' (first|((first|apply qa1|apply qa2|apply qcd);(try intro K hk);focus (simp only [go_sem,Nat.reduceEqDiff,Nat.reduceAdd,Nat.reduceLeDiff,Nat.reduceLT,↓reduceIte,reduceCtorEq,encS_eq,ex_St,hv,Bool.not_false];first|exact rfl|((repeat refine ai ?_);intros;apply hk;clear hk K)))|apply qw8|apply qw1|apply qw6|apply qt1|apply qt3|apply qw4|apply qj1)
   ((first|refine fin_ret ?_|refine fin_end ?_);simp only [go_sem,↓upd_def,Nat.reduceEqDiff,Nat.reduceAdd,↓reduceIte])
   exact ⟨by omega,hK⟩
 | true =>
   have e:afterS ⟨m,t,a,b⟩ x=run ⟨m,t,a,b⟩ x:=by unfold afterS;rw [hv];rfl
   rw [e] at hK
   unfold entry
   repeat' (first|((first|apply qa1|apply qcd);(try intro K hk);focus (simp only [go_sem,Nat.reduceEqDiff,Nat.reduceAdd,Nat.reduceLeDiff,↓reduceIte,reduceCtorEq,encS_eq,ex_St,hv,Bool.not_true];first|exact rfl|((repeat refine ai ?_);intros;apply hk;clear hk K)))|apply qw8|apply qw1|apply qw6|apply qt1|apply qw5|apply qw2|apply qj4)
   refine s_loop (ι:=Nat) (fun k=>[(1,.str x),(2,.ref 0 0),(4,.ref 1 0),(5,.int .i64 k)]) (fun k=>[(0,.box (encS (run ⟨m,t,a,b⟩ (x.take k)))),(1,.box (encS st0))]) 2 (fun k=>k≤x.length) (fun k=>x.length - k) 0 (by omega) (by omega) ?_ ?_
   · simp [fits,fitsT,fitsM,upd_def,PV.nmb,nmbL,MB.nmb,encS,st0,run]
   intro k hk
   have hb:=byte_lt x k
   have hvk:=okS_of (stV_run hv (x.take k))
   generalize hs:run ⟨m,t,a,b⟩ (x.take k)=s at *
   have hsn:=fun h=>run_snoc (s:=⟨m,t,a,b⟩) (t:=x) (k:=k) h
   rw [hs] at hsn
   obtain ⟨m',t',a',b'⟩:=s
   simp only [mkS,mkT,mkM]
   repeat' (first|((first|apply qa1|apply qa2|apply qcd);(try intro K hk);focus (simp only [go_sem,Nat.reduceEqDiff,Nat.reduceAdd,Nat.reduceLeDiff,↓reduceIte,reduceCtorEq,encS_eq];first|exact rfl|((repeat refine ai ?_);intros;apply hk;clear hk K)))|apply qw8|apply qw1|apply qw6|apply qt1|apply qw5|apply qw2|apply qt2|apply qt5|apply qw3|apply qw4|apply qj1|apply qj4|(refine qj6 ?_ ?_<;>intro hc<;>(try simp only [hc])<;>(try simp only [decide_eq_true_eq,decide_eq_false_iff_not] at hc)<;>(try (exfalso;omega))))
   · refine s_draw 5 (by decide +kernel) ?_
     repeat' (first|((first|apply qa1|apply qa2|apply qa3);(try intro K hk);focus (simp only [go_sem,Nat.reduceEqDiff,Nat.reduceAdd,Nat.reduceLeDiff,↓reduceIte,encS_eq,ex_St,ofI_nat];first|exact rfl|((repeat refine ai ?_);intros;apply hk;clear hk K)))|apply qw8|apply qw6|apply qt1|apply qw9|apply qt4)
     refine s_again (k+1) ?_ ?_ ?_<;>(first|omega|(dsimp only;omega)|skip)
     simp [fits,fitsT,fitsM,upd_def,PV.nmb,nmbL,MB.nmb,hsn (by omega),encS,st0]
   · obtain rfl:k=x.length:=by omega
     rw [List.take_length] at hs
     rw [hs] at hK
     ((first|refine fin_ret ?_|refine fin_end ?_);simp only [go_sem,↓upd_def,Nat.reduceEqDiff,Nat.reduceAdd,↓reduceIte])
     exact ⟨by omega,hK⟩
end Go.Proofs.YtnbjogilidfkdaaGreat

/- Contracts: valid states, the reference. -/
namespace Go.Proofs.YtnbjogilidfkdaaGreat
attribute [local irreducible] awp arun acalm FinP Fin AX.then AX.inBlock Again aG gsel amix amixN amixC aop aopc aopd cutK
attribute [local go_sem] aBSliceD aSlice aSliceC boundOf aMk aCall aCallC aLenL aLen aPick_t aPick_f aNil aAlloc aBox aBuild bldPV aBSlice bsPV aApp newsOf destOf drp aConvX aConv aConvInt aLoad cellsAt aStore cellsPV setAt aFld aField aIdx aIndex aUn aBin' aBin aMax aExtract pvOf PV.isCell nmbL PV.nmb List.map_cons List.map_nil List.all_cons List.all_nil Bool.and_true Bool.true_and if_true if_false List.getD_cons_zero List.getD_cons_succ List.getD_nil Option.isSome_some true_and and_true and_self eq_self true_or or_true List.drop_zero List.drop_succ_cons List.drop_nil List.take_zero List.take_succ_cons List.take_nil List.length_cons List.length_nil List.length_map Option.getD_some Option.getD_none List.nil_append List.cons_append List.append_nil Option.some.injEq exists_eq_left' List.getElem?_cons_zero List.getElem?_cons_succ Int.toNat_natCast Int.natCast_inj toNat_succ Nat.zero_add res res1 resC owns owns1 ownsC List.flatMap_cons List.flatMap_nil List.flatten_cons List.flatten_nil List.mem_cons List.not_mem_nil or_false false_or forall_eq forall_eq_or_imp isFro frz frz1 pureC tabA isBld List.cons.injEq PV.seq.injEq PV.int.injEq PV.str.injEq PV.bool.injEq PV.agg.injEq inR tab Γof aRes packR Option.map_some Option.map_none rel Prod.exists exists_and_left exists_eq_left and_assoc beq_self_eq_true Bool.not_true Bool.not_false decide_true decide_false List.set_cons_zero List.set_cons_succ rst_nil rst_cons
attribute [local go_sem ↓] evT upd_def aop aopc aopd
set_option maxRecDepth 100000
set_option linter.unusedVariables false
set_option linter.unusedSimpArgs false
open Go.RowKit
def lvS1s_103:Nat→List Nat
 | 0=>[1]
 | 1=>[1,3]
 | 2=>[1,3,11]
 | 3=>[1,3]
 | 4=>[1,3,17]
 | 5=>[1,3]
 | 6=>[1,3,4]
 | 7=>[1,3,4,31]
 | 8=>[1,3,4]
 | 9=>[1,3,4,5]
 | 10=>[1,3,4,5,45]
 | 11=>[1,3,4,5]
 | 12=>[2]
 | _=>[]
--LV=S1s
set_option maxHeartbeats 8000000 in
theorem sv_s:PureOk Tryz.prog 103 (stC fun s=> .bool (stV s)):=by
 refine pure_rel 1 (tab_cons name_s (tab_cons in_s tab_nil)) mixed [.tmp 2] Tryz.func103 rfl rfl (by kernel_rfl) (by kernel_rfl) (fun _=>rfl) (by kernel_rfl) ?_
 rintro ⟨m,t,a,b⟩ K hok hK
 unfold okS at hok
 dsimp only at hok
 obtain ⟨h1,h2⟩:=hok
 unfold entry
 repeat' (first|((first|apply qwd|apply qa1|apply qh1|apply qg1 rfl|apply qcd);(try intro K hk);focus (simp only [lvS1s_103,mkT,go_sem,Nat.reduceEqDiff,↓reduceIte];first|exact rfl|((repeat refine ai ?_);intros;apply hk;clear hk K)))|apply qw1|refine qwc lvS1s_103 ?_|apply qt1|apply qw2|apply qw4|apply qj1|apply qj2|apply qj3|apply qj4|apply qu1|(refine qj6 ?_ ?_<;>intro hc<;>(try simp only [hc])<;>(try simp only [decide_eq_true_eq,decide_eq_false_iff_not,Bool.not_eq_true',Bool.not_eq_false'] at hc)<;>(try (exfalso;omega))))
 all_goals
  ((first|refine fin_ret ?_|refine fin_end ?_);simp only [go_sem,↓upd_def,↓reduceIte])
  refine K_bool hK ?_
  clear hK
  unfold stV tagOk attrOk seenOk
  dsimp only
  grind
end Go.Proofs.YtnbjogilidfkdaaGreat
