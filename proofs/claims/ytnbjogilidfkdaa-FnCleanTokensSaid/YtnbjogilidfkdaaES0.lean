/- The machine of modes: contracts' shapes, bytes. No program. -/
import Derived.Test.YtnbjogilidfkdaaEFE
import Derived.Test.YtnbjogilidfkdaaEX1

namespace Go.Proofs.Ytnbjogilidfkdaa
set_option maxRecDepth 100000
set_option linter.unusedVariables false
set_option linter.unusedSimpArgs false
open Go.RowKit
--LV=S0
@[go_sem] def stC (f:St→PV):PC:=rel (α:=St) (fun s=>[.agg (encS s)]) okS f
@[go_sem] def sbC (pre:St→Prop) (f:St→UInt8→St):PC:=rel (α:=St×Int) (fun x=>[.agg (encS x.1),.int .u8 x.2]) (fun x=>0≤x.2∧x.2<256∧pre x.1) (fun x=> .agg (encS (f x.1 (ofI x.2))))
theorem ofI_cast2 {c:Nat} (h:c<256):(ofI (c:Int)).toNat=c:=by
 have:=ofI_nat (UInt8.ofNat c)
 have e:(UInt8.ofNat c).toNat=c:=by simp;omega
 rw [e] at this
 rw [this,e]
theorem lowS_len (s:Bs):(lowS s).length=s.length:=by unfold lowS;simp
def moreS (m:Int) (t a:Bs) (w:Bs):St :=
 if m=4 then (if (a++lowS w).length > 10∨t.length > 10 then bad else ⟨m,t,a++lowS w,false⟩) else (if a.length > 10∨(t++lowS w).length > 10 then bad else ⟨m,t++lowS w,a,false⟩)
theorem encS_eq (s:St):encS s=[.int .i64 s.mode,.str s.tag,.str s.attr,.bool s.seen]:=rfl
theorem stV_len {s:St} (h:stV s=true):s.tag.length≤10∧s.attr.length≤10:=by
 have h1:=(stV_parts h).2.2.1
 have h2:=(stV_parts h).2.2.2.1
 unfold tagOk at h1
 unfold attrOk at h2
 constructor
 · split at h1
   · exact (nameB_len h1).2
   · split at h1
     · simp only [Bool.or_eq_true,decide_eq_true_eq] at h1
       rcases h1 with h1|h1
       · rw [h1];simp
       · exact (nameB_len h1).2
     · simp only [decide_eq_true_eq] at h1;rw [h1];simp
 · split at h2
   · exact (nameB_len h2).2
   · simp only [decide_eq_true_eq] at h2;rw [h2];simp
theorem bare_nm: ∀ c:UInt8,bareB c=(nmByte c || decide (c.toNat=95) || decide (c.toNat=46) || decide (c.toNat=47) || decide (c.toNat=58)):=all_bytes (by decide)
theorem cls_byte: ∀ c:UInt8,(isLet c=true→nmByte c=true)∧(nmByte c=true→c.toNat≠32∧c.toNat≠62∧c.toNat≠61∧c.toNat≠34∧c.toNat≠39∧c.toNat≠47∧c.toNat≠33):=all_bytes (by decide)
theorem low_one (b:UInt8):lowS [b]=[low1 b]:=rfl
theorem moreS_t {m:Int} {t:Bs} {c:UInt8} (h:m≠4):moreS m t [] [c]=longT ⟨m,t,[],false⟩ c:=by
 unfold moreS longT
 rw [if_neg h,low_one,List.length_append]
 by_cases h1:t.length+1 > 10
 · rw [if_pos h1,if_pos (.inr (by simpa using h1))]
 · rw [if_neg h1,if_neg (by simp;omega)]
theorem moreS_a {t a:Bs} {c:UInt8} (h:t.length≤10):moreS 4 t a [c]=longA ⟨4,t,a,false⟩ c:=by
 unfold moreS longA
 rw [if_pos rfl,low_one,List.length_append]
 by_cases h1:a.length+1 > 10
 · rw [if_pos h1,if_pos (.inl (by simpa using h1))]
 · rw [if_neg h1,if_neg (by simp;omega)]
theorem ex_St {m:Int} {t a:Bs} {b:Bool} {p:St→Prop}:(∃ s:St,m=s.mode∧t=s.tag∧a=s.attr∧b=s.seen∧p s)↔p ⟨m,t,a,b⟩:=by
 constructor
 · rintro ⟨⟨m',t',a',b'⟩,h1,h2,h3,h4,hp⟩
   dsimp only at h1 h2 h3 h4
   subst h1 h2 h3 h4
   exact hp
 · exact fun h=>⟨_,rfl,rfl,rfl,rfl,h⟩
theorem step_bad' {s:St} {c:UInt8} (h:stV s=false):step s c=bad:=by unfold step;rw [if_neg (by rw [h];decide)]
end Go.Proofs.Ytnbjogilidfkdaa

/- Contracts: one step of the machine of modes. -/
namespace Go.Proofs.Ytnbjogilidfkdaa
attribute [local irreducible] awp arun acalm FinP Fin AX.then AX.inBlock Again aG gsel amix amixN amixC aop aopc aopd cutK
attribute [local go_sem] aBSliceD aSlice aSliceC boundOf aMk aCall aCallC aLenL aLen aPick_t aPick_f aNil aAlloc aBox aBuild bldPV aBSlice bsPV aApp newsOf destOf drp aConvX aConv aConvInt aLoad cellsAt aStore cellsPV setAt aFld aField aIdx aIndex aUn aBin' aBin aMax aExtract pvOf PV.isCell nmbL PV.nmb List.map_cons List.map_nil List.all_cons List.all_nil Bool.and_true Bool.true_and if_true if_false List.getD_cons_zero List.getD_cons_succ List.getD_nil Option.isSome_some true_and and_true and_self eq_self true_or or_true List.drop_zero List.drop_succ_cons List.drop_nil List.take_zero List.take_succ_cons List.take_nil List.length_cons List.length_nil List.length_map Option.getD_some Option.getD_none List.nil_append List.cons_append List.append_nil Option.some.injEq exists_eq_left' List.getElem?_cons_zero List.getElem?_cons_succ Int.toNat_natCast Int.natCast_inj toNat_succ Nat.zero_add res res1 resC owns owns1 ownsC List.flatMap_cons List.flatMap_nil List.flatten_cons List.flatten_nil List.mem_cons List.not_mem_nil or_false false_or forall_eq forall_eq_or_imp isFro frz frz1 pureC tabA isBld List.cons.injEq PV.seq.injEq PV.int.injEq PV.str.injEq PV.bool.injEq PV.agg.injEq inR tab Γof aRes packR Option.map_some Option.map_none rel Prod.exists exists_and_left exists_eq_left and_assoc beq_self_eq_true Bool.not_true Bool.not_false decide_true decide_false List.set_cons_zero List.set_cons_succ rst_nil rst_cons
attribute [local go_sem ↓] evT upd_def aop aopc aopd
set_option maxRecDepth 100000
set_option linter.unusedVariables false
set_option linter.unusedSimpArgs false
open Go.RowKit
--LV=S2
theorem nmb_s:PureOk Try.prog 135 (byC fun b=> .bool (nmByte b)):=by
 refine pure_rel 1 (tab_cons let_s (tab_cons digb_s tab_nil)) mixed [.tmp 2] Try.func135 rfl rfl (by kernel_rfl) (by kernel_rfl) (fun _=>rfl) (by kernel_rfl) ?_
 rintro b K ⟨h1,h2⟩ hK
 unfold entry
 repeat' (first|((first|apply qa1|apply qh1|apply qg1 rfl);(try intro K hk);focus (simp only [go_sem,Nat.reduceEqDiff,↓reduceIte,reduceCtorEq];first|exact rfl|((repeat refine ai ?_);intros;apply hk;clear hk K)))|apply qw8|apply qw1|apply qw6|apply qt1|apply qw4|apply qj2|apply qj3|apply qu1|(refine qj6 ?_ ?_<;>intro hc<;>(try simp only [hc])<;>(try simp only [decide_eq_true_eq,decide_eq_false_iff_not,Bool.not_eq_true',Bool.not_eq_false',Bool.not_eq_true,reduceCtorEq] at hc)<;>(try (exfalso;omega))))
 all_goals
  ((first|refine fin_ret ?_|refine fin_end ?_);simp only [go_sem,↓upd_def,↓reduceIte])
  refine K_bool hK ?_
  clear hK
  unfold nmByte
  have hob:((ofI b).toNat:Int)=b:=by
   obtain ⟨c,rfl⟩:=Int.eq_ofNat_of_zero_le h1
   rw [ofI_cast2 (by omega)]
  simp [*]
  try omega
set_option maxHeartbeats 8000000 in
theorem more_s:PureOk Try.prog 133 (rel (α:=(Int×Bs)×(Bs×Bs)) (fun x=>[.int .i64 x.1.1,.str x.1.2,.str x.2.1,.str x.2.2]) (fun x=>x.1.2.length≤1000∧x.2.1.length≤1000∧x.2.2.length≤1000) (fun x=> .agg (encS (moreS x.1.1 x.1.2 x.2.1 x.2.2)))):=by
 refine pure_rel 4 (tab_cons low_s tab_nil) mixed [.cell 8 82] Try.func133 rfl rfl (by kernel_rfl) (by kernel_rfl) (fun _=>rfl) (by kernel_rfl) ?_
 rintro ⟨⟨m,t⟩,a,w⟩ K ⟨h1,h2,h3⟩ hK
 dsimp only at h1 h2 h3
 have hll:=lowS_len w
 unfold entry
 repeat' (first|((first|apply qa1|apply qa2|apply qh1|apply qg1 rfl|apply qcd);(try intro K hk);focus (simp only [go_sem,Nat.reduceEqDiff,Nat.reduceAdd,Nat.reduceLeDiff,Nat.reduceLT,↓reduceIte,reduceCtorEq,lowS_len,List.length_append];first|exact rfl|((repeat refine ai ?_);intros;apply hk;clear hk K)))|apply qw8|apply qw1|apply qw6|apply qt1|apply qw2|apply qt3|apply qw4|apply qj1|apply qj2|apply qj3|apply qj4|apply qu1|(refine qj6 ?_ ?_<;>intro hc<;>(try simp only [hc])<;>(try simp only [decide_eq_true_eq,decide_eq_false_iff_not] at hc)<;>(try (exfalso;omega))))
 all_goals
  ((first|refine fin_ret ?_|refine fin_end ?_);simp only [go_sem,↓upd_def,Nat.reduceEqDiff,Nat.reduceAdd,↓reduceIte])
  refine ⟨by omega,K_eq hK ?_⟩
  clear hK
  unfold moreS bad encS
  dsimp only
  grind [lowS_len]
end Go.Proofs.Ytnbjogilidfkdaa

/- Contracts: one step of the machine of modes, the reference. -/
namespace Go.Proofs.Ytnbjogilidfkdaa
attribute [local irreducible] awp arun acalm FinP Fin AX.then AX.inBlock Again aG gsel amix amixN amixC aop aopc aopd cutK
attribute [local go_sem] aBSliceD aSlice aSliceC boundOf aMk aCall aCallC aLenL aLen aPick_t aPick_f aNil aAlloc aBox aBuild bldPV aBSlice bsPV aApp newsOf destOf drp aConvX aConv aConvInt aLoad cellsAt aStore cellsPV setAt aFld aField aIdx aIndex aUn aBin' aBin aMax aExtract pvOf PV.isCell nmbL PV.nmb List.map_cons List.map_nil List.all_cons List.all_nil Bool.and_true Bool.true_and if_true if_false List.getD_cons_zero List.getD_cons_succ List.getD_nil Option.isSome_some true_and and_true and_self eq_self true_or or_true List.drop_zero List.drop_succ_cons List.drop_nil List.take_zero List.take_succ_cons List.take_nil List.length_cons List.length_nil List.length_map Option.getD_some Option.getD_none List.nil_append List.cons_append List.append_nil Option.some.injEq exists_eq_left' List.getElem?_cons_zero List.getElem?_cons_succ Int.toNat_natCast Int.natCast_inj toNat_succ Nat.zero_add res res1 resC owns owns1 ownsC List.flatMap_cons List.flatMap_nil List.flatten_cons List.flatten_nil List.mem_cons List.not_mem_nil or_false false_or forall_eq forall_eq_or_imp isFro frz frz1 pureC tabA isBld List.cons.injEq PV.seq.injEq PV.int.injEq PV.str.injEq PV.bool.injEq PV.agg.injEq inR tab Γof aRes packR Option.map_some Option.map_none rel Prod.exists exists_and_left exists_eq_left and_assoc beq_self_eq_true Bool.not_true Bool.not_false decide_true decide_false List.set_cons_zero List.set_cons_succ rst_nil rst_cons
attribute [local go_sem ↓] evT upd_def aop aopc aopd
set_option maxRecDepth 100000
set_option linter.unusedVariables false
set_option linter.unusedSimpArgs false
open Go.RowKit
def lvS3_136:Nat→List Nat
 | 0=>[1,2,4]
 | 1=>[1,2,4,5]
 | 2=>[4]
 | 3=>[1,2,4,16]
 | 4=>[4]
 | 5=>[1,2,4,30]
 | 6=>[4]
 | 7=>[1,2,4,46]
 | 8=>[4]
 | 9=>[1,2,4,60]
 | 10=>[4]
 | 11=>[1,2,4,71]
 | 12=>[4]
 | 13=>[1,2,4,84]
 | 14=>[4]
 | 15=>[1,2,4,97]
 | 16=>[4]
 | 17=>[2,4,110]
 | 18=>[4]
 | 19=>[4]
 | _=>[]
--LV=S3
set_option maxHeartbeats 8000000 in
theorem cont_s:PureOk Try.prog 148 (tC fun t=> .agg (encS (if t=script then ⟨11,[],[],false⟩ else st0))):=by
 refine pure_rel 1 tab_nil mixed [.cell 2 82] Try.func148 rfl rfl (by kernel_rfl) (by kernel_rfl) (fun _=>rfl) (by kernel_rfl) ?_
 rintro t K h1 hK
 unfold entry
 repeat' (first|((first|apply qa1|apply qa2|apply qcd);(try intro K hk);focus (simp only [go_sem,Nat.reduceEqDiff,Nat.reduceAdd,Nat.reduceLeDiff,Nat.reduceLT,↓reduceIte,reduceCtorEq];first|exact rfl|((repeat refine ai ?_);intros;apply hk;clear hk K)))|apply qw8|apply qw1|apply qw6|apply qt1|apply qw2|apply qt3|apply qw4|apply qj1|apply qj4|(refine qj6 ?_ ?_<;>intro hc<;>(try simp only [hc])<;>(try simp only [decide_eq_true_eq,decide_eq_false_iff_not] at hc)<;>(try (exfalso;omega))))
 all_goals
  ((first|refine fin_ret ?_|refine fin_end ?_);simp only [go_sem,↓upd_def,Nat.reduceEqDiff,Nat.reduceAdd,↓reduceIte])
  refine ⟨by omega,K_eq hK ?_⟩
  clear hK
  unfold st0 encS script
  simp [*]
set_option maxHeartbeats 8000000 in
theorem value_s:PureOk Try.prog 134 (stC fun s=> .agg (encS ⟨s.mode,s.tag,s.attr,true⟩)):=by
 refine pure_rel 1 tab_nil mixed [.cell 2 82] Try.func134 rfl rfl (by kernel_rfl) (by kernel_rfl) (fun _=>rfl) (by kernel_rfl) ?_
 rintro ⟨m,t,a,b⟩ K h1 hK
 unfold entry
 repeat' (first|((first|apply qa1|apply qa2);(try intro K hk);focus (simp only [go_sem,Nat.reduceEqDiff,Nat.reduceAdd,Nat.reduceLeDiff,↓reduceIte,reduceCtorEq];first|exact rfl|((repeat refine ai ?_);intros;apply hk;clear hk K)))|apply qw8|apply qw1|apply qw6|apply qt1|apply qw4)
 ((first|refine fin_ret ?_|refine fin_end ?_);simp only [go_sem,↓upd_def,Nat.reduceEqDiff,Nat.reduceAdd,↓reduceIte])
 exact ⟨by omega,hK⟩
set_option maxHeartbeats 8000000 in
theorem tag_s:PureOk Try.prog 136 (sbC (fun s=>stV s=true∧(s.mode=2∨s.mode=3∨s.mode=4∨s.mode=5∨s.mode=8)) stepV):=by
 refine pure_rel 2 (tab_cons cont_s (tab_cons nmb_s (tab_cons more_s (tab_cons let_s tab_nil)))) mixed [.cell 4 82] Try.func136 rfl rfl (by kernel_rfl) (by kernel_rfl) (fun _=>rfl) (by kernel_rfl) ?_
 rintro ⟨⟨m,t,a,b⟩,c⟩ K ⟨h1,h2,h3,h4⟩ hK
 dsimp only at h1 h2 h3 h4
 obtain ⟨c,rfl⟩:=byte_of h1 (by omega)
 obtain ⟨hl1,hl2⟩:=stV_len h3
 have g1:= @stV_attr0 _ h3
 have g2:= @stV_seen0 _ h3
 have g3:= @stV_seen8 _ h3
 have hbn:=bare_nm c
 obtain ⟨q1,q2⟩:=cls_byte c
 dsimp only at hl1 hl2 g1 g2 g3
 clear h3
 rw [ofI_nat] at hK
 rcases h4 with rfl|rfl|rfl|rfl|rfl
 · have e1:=g1 (by decide)
   have e2:=g2 (by decide)
   subst e1 e2
   clear g1 g2 g3
   rw [stepV_t (by simp),stepTagM] at hK
   unfold entry
   repeat' (first|((first|apply qwd|apply qa1|apply qa2|apply qh1|apply qg1 rfl|apply qcd);(try intro K hk);focus (simp only [lvS3_136,mkT,go_sem,Nat.reduceEqDiff,Nat.reduceAdd,Nat.reduceLeDiff,Nat.reduceLT,↓reduceIte,reduceCtorEq,encS_eq,List.length_cons,List.length_nil,ofI_nat,Int.reduceEq,decide_true,decide_false];first|exact rfl|((repeat refine ai ?_);intros;apply hk;clear hk K)))|apply qw1|refine qwc lvS3_136 ?_|apply qt1|apply qw5|apply qw2|apply qt3|apply qt4|apply qt6|apply qw4|apply qj1|apply qj2|apply qj4|apply qj5|apply qu1|(refine qj6 ?_ ?_<;>intro hc<;>(try simp only [hc])<;>(try simp only [decide_eq_true_eq,decide_eq_false_iff_not] at hc)<;>(try (exfalso;omega))))
   all_goals
    ((first|refine fin_ret ?_|refine fin_end ?_);simp only [go_sem,↓upd_def,Nat.reduceAdd,↓reduceIte])
    refine ⟨by omega,K_eq hK ?_⟩
    clear hK
    try rw [moreS_t (by decide)]
    try rw [moreS_a (by omega)]
    (repeat' split)<;>first|rfl|(exfalso;omega)|(exfalso;simp_all;done)|(exfalso;simp_all;omega)
 · have e1:=g1 (by decide)
   have e2:=g2 (by decide)
   subst e1 e2
   clear g1 g2 g3
   rw [stepV_t (by simp),stepTagM] at hK
   unfold entry
   repeat' (first|((first|apply qwd|apply qa1|apply qa2|apply qh1|apply qg1 rfl|apply qcd);(try intro K hk);focus (simp only [lvS3_136,mkT,go_sem,Nat.reduceEqDiff,Nat.reduceAdd,Nat.reduceLeDiff,Nat.reduceLT,↓reduceIte,reduceCtorEq,encS_eq,List.length_cons,List.length_nil,ofI_nat,Int.reduceEq,decide_true,decide_false];first|exact rfl|((repeat refine ai ?_);intros;apply hk;clear hk K)))|apply qw1|refine qwc lvS3_136 ?_|apply qt1|apply qw5|apply qw2|apply qt3|apply qt4|apply qt6|apply qw4|apply qj1|apply qj2|apply qj4|apply qj5|apply qu1|(refine qj6 ?_ ?_<;>intro hc<;>(try simp only [hc])<;>(try simp only [decide_eq_true_eq,decide_eq_false_iff_not] at hc)<;>(try (exfalso;omega))))
   all_goals
    ((first|refine fin_ret ?_|refine fin_end ?_);simp only [go_sem,↓upd_def,Nat.reduceAdd,↓reduceIte])
    refine ⟨by omega,K_eq hK ?_⟩
    clear hK
    try rw [moreS_t (by decide)]
    try rw [moreS_a (by omega)]
    (repeat' split)<;>first|rfl|(exfalso;omega)|(exfalso;simp_all;done)|(exfalso;simp_all;omega)
 · have e2:=g2 (by decide)
   subst e2
   clear g1 g2 g3
   rw [stepV_t (by simp),stepTagM] at hK
   unfold entry
   repeat' (first|((first|apply qwd|apply qa1|apply qa2|apply qh1|apply qg1 rfl|apply qcd);(try intro K hk);focus (simp only [lvS3_136,mkT,go_sem,Nat.reduceEqDiff,Nat.reduceAdd,Nat.reduceLeDiff,Nat.reduceLT,↓reduceIte,reduceCtorEq,encS_eq,List.length_cons,List.length_nil,ofI_nat,Int.reduceEq,decide_true,decide_false];first|exact rfl|((repeat refine ai ?_);intros;apply hk;clear hk K)))|apply qw1|refine qwc lvS3_136 ?_|apply qt1|apply qw5|apply qw2|apply qt3|apply qt4|apply qt6|apply qw4|apply qj1|apply qj2|apply qj4|apply qj5|apply qu1|(refine qj6 ?_ ?_<;>intro hc<;>(try simp only [hc])<;>(try simp only [decide_eq_true_eq,decide_eq_false_iff_not] at hc)<;>(try (exfalso;omega))))
   all_goals
    ((first|refine fin_ret ?_|refine fin_end ?_);simp only [go_sem,↓upd_def,Nat.reduceAdd,↓reduceIte])
    refine ⟨by omega,K_eq hK ?_⟩
    clear hK
    try rw [moreS_t (by decide)]
    try rw [moreS_a (by omega)]
    (repeat' split)<;>first|rfl|(exfalso;omega)|(exfalso;simp_all;done)|(exfalso;simp_all;omega)
 · have e2:=g2 (by decide)
   subst e2
   clear g1 g2 g3
   rw [stepV_5 rfl] at hK
   unfold entry
   repeat' (first|((first|apply qwd|apply qa1|apply qa2|apply qh1|apply qg1 rfl|apply qcd);(try intro K hk);focus (simp only [lvS3_136,mkT,go_sem,Nat.reduceEqDiff,Nat.reduceAdd,Nat.reduceLeDiff,Nat.reduceLT,↓reduceIte,reduceCtorEq,encS_eq,List.length_cons,List.length_nil,ofI_nat,Int.reduceEq,decide_true,decide_false];first|exact rfl|((repeat refine ai ?_);intros;apply hk;clear hk K)))|apply qw1|refine qwc lvS3_136 ?_|apply qt1|apply qw5|apply qw2|apply qt3|apply qt4|apply qt6|apply qw4|apply qj1|apply qj2|apply qj3|apply qj4|apply qu1|(refine qj6 ?_ ?_<;>intro hc<;>(try simp only [hc])<;>(try simp only [decide_eq_true_eq,decide_eq_false_iff_not] at hc)<;>(try (exfalso;omega))))
   all_goals
    ((first|refine fin_ret ?_|refine fin_end ?_);simp only [go_sem,↓upd_def,Nat.reduceAdd,↓reduceIte])
    refine ⟨by omega,K_eq hK ?_⟩
    clear hK
    try rw [moreS_t (by decide)]
    try rw [moreS_a (by omega)]
    (repeat' split)<;>first|rfl|(exfalso;omega)|(exfalso;simp_all;done)|(exfalso;simp_all;omega)
 · have e2:=g3 rfl
   subst e2
   clear g1 g2 g3
   rw [stepV_t (by simp),stepTagM] at hK
   unfold entry
   repeat' (first|((first|apply qwd|apply qa1|apply qa2|apply qh1|apply qg1 rfl|apply qcd);(try intro K hk);focus (simp only [lvS3_136,mkT,go_sem,Nat.reduceEqDiff,Nat.reduceAdd,Nat.reduceLeDiff,Nat.reduceLT,↓reduceIte,reduceCtorEq,encS_eq,List.length_cons,List.length_nil,ofI_nat,Int.reduceEq,decide_true,decide_false];first|exact rfl|((repeat refine ai ?_);intros;apply hk;clear hk K)))|apply qw1|refine qwc lvS3_136 ?_|apply qt1|apply qw5|apply qw2|apply qt3|apply qt4|apply qt6|apply qw4|apply qj1|apply qj2|apply qj3|apply qj4|apply qu1|(refine qj6 ?_ ?_<;>intro hc<;>(try simp only [hc])<;>(try simp only [decide_eq_true_eq,decide_eq_false_iff_not] at hc)<;>(try (exfalso;omega))))
   all_goals
    ((first|refine fin_ret ?_|refine fin_end ?_);simp only [go_sem,↓upd_def,Nat.reduceAdd,↓reduceIte])
    refine ⟨by omega,K_eq hK ?_⟩
    clear hK
    try rw [moreS_t (by decide)]
    try rw [moreS_a (by omega)]
    (repeat' split)<;>first|rfl|(exfalso;omega)|(exfalso;simp_all;done)|(exfalso;simp_all;omega)
end Go.Proofs.Ytnbjogilidfkdaa

/- Contracts: valid states, the reference. -/
namespace Go.Proofs.Ytnbjogilidfkdaa
attribute [local irreducible] awp arun acalm FinP Fin AX.then AX.inBlock Again aG gsel amix amixN amixC aop aopc aopd cutK
attribute [local go_sem] aBSliceD aSlice aSliceC boundOf aMk aCall aCallC aLenL aLen aPick_t aPick_f aNil aAlloc aBox aBuild bldPV aBSlice bsPV aApp newsOf destOf drp aConvX aConv aConvInt aLoad cellsAt aStore cellsPV setAt aFld aField aIdx aIndex aUn aBin' aBin aMax aExtract pvOf PV.isCell nmbL PV.nmb List.map_cons List.map_nil List.all_cons List.all_nil Bool.and_true Bool.true_and if_true if_false List.getD_cons_zero List.getD_cons_succ List.getD_nil Option.isSome_some true_and and_true and_self eq_self true_or or_true List.drop_zero List.drop_succ_cons List.drop_nil List.take_zero List.take_succ_cons List.take_nil List.length_cons List.length_nil List.length_map Option.getD_some Option.getD_none List.nil_append List.cons_append List.append_nil Option.some.injEq exists_eq_left' List.getElem?_cons_zero List.getElem?_cons_succ Int.toNat_natCast Int.natCast_inj toNat_succ Nat.zero_add res res1 resC owns owns1 ownsC List.flatMap_cons List.flatMap_nil List.flatten_cons List.flatten_nil List.mem_cons List.not_mem_nil or_false false_or forall_eq forall_eq_or_imp isFro frz frz1 pureC tabA isBld List.cons.injEq PV.seq.injEq PV.int.injEq PV.str.injEq PV.bool.injEq PV.agg.injEq inR tab Γof aRes packR Option.map_some Option.map_none rel Prod.exists exists_and_left exists_eq_left and_assoc beq_self_eq_true Bool.not_true Bool.not_false decide_true decide_false List.set_cons_zero List.set_cons_succ rst_nil rst_cons
attribute [local go_sem ↓] evT upd_def aop aopc aopd
set_option maxRecDepth 100000
set_option linter.unusedVariables false
set_option linter.unusedSimpArgs false
open Go.RowKit
def lvS1s_132:Nat→List Nat
 | 0=>[1]
 | 1=>[1,3]
 | 2=>[1,3,11]
 | 3=>[1,3]
 | 4=>[1,3,17]
 | 5=>[1,3]
 | 6=>[1,3,4]
 | 7=>[1,3,4,31]
 | 8=>[1,3,4]
 | 9=>[1,3,4,5]
 | 10=>[1,3,4,5,45]
 | 11=>[1,3,4,5]
 | 12=>[2]
 | _=>[]
--LV=S1s
set_option maxHeartbeats 8000000 in
theorem sv_s:PureOk Try.prog 132 (stC fun s=> .bool (stV s)):=by
 refine pure_rel 1 (tab_cons name_s (tab_cons in_s tab_nil)) mixed [.tmp 2] Try.func132 rfl rfl (by kernel_rfl) (by kernel_rfl) (fun _=>rfl) (by kernel_rfl) ?_
 rintro ⟨m,t,a,b⟩ K hok hK
 unfold okS at hok
 dsimp only at hok
 obtain ⟨h1,h2⟩:=hok
 unfold entry
 repeat' (first|((first|apply qwd|apply qa1|apply qh1|apply qg1 rfl|apply qcd);(try intro K hk);focus (simp only [lvS1s_132,mkT,go_sem,Nat.reduceEqDiff,↓reduceIte];first|exact rfl|((repeat refine ai ?_);intros;apply hk;clear hk K)))|apply qw1|refine qwc lvS1s_132 ?_|apply qt1|apply qw2|apply qw4|apply qj1|apply qj2|apply qj3|apply qj4|apply qu1|(refine qj6 ?_ ?_<;>intro hc<;>(try simp only [hc])<;>(try simp only [decide_eq_true_eq,decide_eq_false_iff_not,Bool.not_eq_true',Bool.not_eq_false'] at hc)<;>(try (exfalso;omega))))
 all_goals
  ((first|refine fin_ret ?_|refine fin_end ?_);simp only [go_sem,↓upd_def,↓reduceIte])
  refine K_bool hK ?_
  clear hK
  unfold stV tagOk attrOk seenOk
  dsimp only
  grind
end Go.Proofs.Ytnbjogilidfkdaa

/- Contracts: one step of the machine of modes, many steps, places: the reference. -/
namespace Go.Proofs.Ytnbjogilidfkdaa
attribute [local irreducible] awp arun acalm FinP Fin AX.then AX.inBlock Again aG gsel amix amixN amixC aop aopc aopd cutK
attribute [local go_sem] aBSliceD aSlice aSliceC boundOf aMk aCall aCallC aLenL aLen aPick_t aPick_f aNil aAlloc aBox aBuild bldPV aBSlice bsPV aApp newsOf destOf drp aConvX aConv aConvInt aLoad cellsAt aStore cellsPV setAt aFld aField aIdx aIndex aUn aBin' aBin aMax aExtract pvOf PV.isCell nmbL PV.nmb List.map_cons List.map_nil List.all_cons List.all_nil Bool.and_true Bool.true_and if_true if_false List.getD_cons_zero List.getD_cons_succ List.getD_nil Option.isSome_some true_and and_true and_self eq_self true_or or_true List.drop_zero List.drop_succ_cons List.drop_nil List.take_zero List.take_succ_cons List.take_nil List.length_cons List.length_nil List.length_map Option.getD_some Option.getD_none List.nil_append List.cons_append List.append_nil Option.some.injEq exists_eq_left' List.getElem?_cons_zero List.getElem?_cons_succ Int.toNat_natCast Int.natCast_inj toNat_succ Nat.zero_add res res1 resC owns owns1 ownsC List.flatMap_cons List.flatMap_nil List.flatten_cons List.flatten_nil List.mem_cons List.not_mem_nil or_false false_or forall_eq forall_eq_or_imp isFro frz frz1 pureC tabA isBld List.cons.injEq PV.seq.injEq PV.int.injEq PV.str.injEq PV.bool.injEq PV.agg.injEq inR tab Γof aRes packR Option.map_some Option.map_none rel Prod.exists exists_and_left exists_eq_left and_assoc beq_self_eq_true Bool.not_true Bool.not_false decide_true decide_false List.set_cons_zero List.set_cons_succ rst_nil rst_cons
attribute [local go_sem ↓] evT upd_def aop aopc aopd
set_option maxRecDepth 100000
set_option linter.unusedVariables false
set_option linter.unusedSimpArgs false
open Go.RowKit
def lvS4_89:Nat→List Nat
 | 0=>[1,2,4]
 | 1=>[1,2,4,5]
 | 2=>[1,2,4,5,9]
 | 3=>[4]
 | 4=>[1,2,4,5,11]
 | 5=>[4]
 | 6=>[1,2,4,5,20]
 | 7=>[4]
 | 8=>[1,2,4,5,34]
 | 9=>[4]
 | 10=>[1,2,4,5,39]
 | 11=>[4]
 | 12=>[1,2,4,5,51]
 | 13=>[4]
 | 14=>[1,2,4,5,60]
 | 15=>[4]
 | 16=>[1,2,4,5,69]
 | 17=>[4]
 | 18=>[1,2,4,5,89]
 | 19=>[4]
 | 20=>[1,2,4,5,100]
 | 21=>[4]
 | 22=>[1,2,4,5,123]
 | 23=>[4]
 | 24=>[1,2,4,5,137]
 | 25=>[4]
 | 26=>[1,2,4,5,144]
 | 27=>[4]
 | 28=>[4]
 | _=>[]
def lvS4_137:Nat→List Nat
 | 0=>[1,2,4]
 | 1=>[1,2,4,5]
 | 2=>[4]
 | 3=>[1,2,4,14]
 | 4=>[4]
 | 5=>[1,2,4,23]
 | 6=>[4]
 | 7=>[1,2,4,32]
 | 8=>[4]
 | 9=>[1,2,4,41]
 | 10=>[4]
 | 11=>[1,4,50]
 | 12=>[4]
 | 13=>[1,4,60]
 | 14=>[4]
 | 15=>[4,64]
 | 16=>[4]
 | 17=>[4]
 | _=>[]
--LV=S4
set_option maxHeartbeats 8000000 in
theorem script_s:PureOk Try.prog 137 (sbC (fun s=>stV s=true∧(s.mode=11∨s.mode=12∨s.mode=13∨s.mode=14)) stepV):=by
 refine pure_rel 2 tab_nil mixed [.cell 4 82] Try.func137 rfl rfl (by kernel_rfl) (by kernel_rfl) (fun _=>rfl) (by kernel_rfl) ?_
 rintro ⟨⟨m,t,a,b⟩,c⟩ K ⟨h1,h2,hv,h4⟩ hK
 dsimp only at *
 obtain ⟨c,rfl⟩:=byte_of h1 (by omega)
 rw [ofI_nat] at hK
 obtain ⟨hl1,hl2⟩:=stV_len hv
 have g0:= @stV_tag0 _ hv
 have g1:= @stV_attr0 _ hv
 have g2:= @stV_seen0 _ hv
 have g3:= @stV_seen8 _ hv
 have hbn:=bare_nm c
 have hnm:nmByte c=(isLet c || isDig c || decide (c.toNat=45)):=rfl
 obtain ⟨q1,q2⟩:=cls_byte c
 dsimp only at hl1 hl2 g0 g1 g2 g3
 clear hv
 rcases h4 with rfl|rfl|rfl|rfl
 · have e0:=g0 (by decide)
   have e1:=g1 (by decide)
   have e2:=g2 (by decide)
   subst e0 e1 e2
   clear g0 g1 g2 g3
   rw [stepV_11 rfl] at hK
   unfold entry
   repeat' (first|((first|apply qwd|apply qa1|apply qa2|apply qh1|apply qg1 rfl|apply qcd);(try intro K hk);focus (simp only [lvS4_137,mkT,go_sem,Nat.reduceEqDiff,Nat.reduceAdd,Nat.reduceLeDiff,Nat.reduceLT,↓reduceIte,reduceCtorEq,encS_eq,List.length_cons,List.length_nil,Int.reduceEq,decide_false,Bool.and_true];first|exact rfl|((repeat refine ai ?_);intros;apply hk;clear hk K)))|apply qw1|refine qwc lvS4_137 ?_|apply qt1|apply qw5|apply qw2|apply qt3|apply qt4|apply qt6|apply qw4|apply qj1|apply qj2|apply qj4|apply qu1|(refine qj6 ?_ ?_<;>intro hc<;>(try simp only [hc])<;>(try simp only [decide_eq_true_eq,decide_eq_false_iff_not] at hc)<;>(try (exfalso;omega))))
   all_goals
    ((first|refine fin_ret ?_|refine fin_end ?_);simp only [go_sem,↓upd_def,Nat.reduceAdd,↓reduceIte])
    refine ⟨by omega,K_eq hK ?_⟩
    clear hK
    try rw [moreS_t (by decide)]
    try rw [moreS_a (by omega)]
    (repeat' split)<;>first|rfl|(exfalso;omega)|(exfalso;simp_all;done)|(exfalso;simp_all;omega)|(simp_all;done)
 · have e0:=g0 (by decide)
   have e1:=g1 (by decide)
   have e2:=g2 (by decide)
   subst e0 e1 e2
   clear g0 g1 g2 g3
   rw [stepV_12 rfl] at hK
   unfold entry
   repeat' (first|((first|apply qwd|apply qa1|apply qa2|apply qh1|apply qg1 rfl|apply qcd);(try intro K hk);focus (simp only [lvS4_137,mkT,go_sem,Nat.reduceEqDiff,Nat.reduceAdd,Nat.reduceLeDiff,Nat.reduceLT,↓reduceIte,reduceCtorEq,encS_eq,List.length_cons,List.length_nil,Int.reduceEq,decide_true,decide_false,Bool.and_true];first|exact rfl|((repeat refine ai ?_);intros;apply hk;clear hk K)))|apply qw1|refine qwc lvS4_137 ?_|apply qt1|apply qw5|apply qt3|apply qt6|apply qw4|apply qj1|apply qj3|apply qj4|apply qu1|(refine qj6 ?_ ?_<;>intro hc<;>(try simp only [hc])<;>(try simp only [decide_eq_true_eq,decide_eq_false_iff_not,Bool.not_eq_true',Bool.not_eq_false'] at hc)<;>(try (exfalso;omega))))
   all_goals
    ((first|refine fin_ret ?_|refine fin_end ?_);simp only [go_sem,↓upd_def,Nat.reduceAdd,↓reduceIte])
    refine ⟨by omega,K_eq hK ?_⟩
    clear hK
    try rw [moreS_t (by decide)]
    try rw [moreS_a (by omega)]
    (repeat' split)<;>first|rfl|(exfalso;omega)|(exfalso;simp_all;done)|(exfalso;simp_all;omega)|(simp_all;done)
 · have e0:=g0 (by decide)
   have e1:=g1 (by decide)
   have e2:=g2 (by decide)
   subst e0 e1 e2
   clear g0 g1 g2 g3
   rw [stepV_13 rfl] at hK
   unfold entry
   repeat' (first|((first|apply qwd|apply qa1|apply qa2|apply qh1|apply qg1 rfl|apply qcd);(try intro K hk);focus (simp only [lvS4_137,mkT,go_sem,Nat.reduceEqDiff,Nat.reduceAdd,Nat.reduceLeDiff,Nat.reduceLT,↓reduceIte,reduceCtorEq,encS_eq,List.length_cons,List.length_nil,Int.reduceEq,decide_true,decide_false,Bool.and_true];first|exact rfl|((repeat refine ai ?_);intros;apply hk;clear hk K)))|apply qw1|refine qwc lvS4_137 ?_|apply qt1|apply qw5|apply qt3|apply qt6|apply qw4|apply qj1|apply qj2|apply qj4|apply qu1|(refine qj6 ?_ ?_<;>intro hc<;>(try simp only [hc])<;>(try simp only [decide_eq_true_eq,decide_eq_false_iff_not,Bool.not_eq_true',Bool.not_eq_false'] at hc)<;>(try (exfalso;omega))))
   all_goals
    ((first|refine fin_ret ?_|refine fin_end ?_);simp only [go_sem,↓upd_def,Nat.reduceAdd,↓reduceIte])
    refine ⟨by omega,K_eq hK ?_⟩
    clear hK
    try rw [moreS_t (by decide)]
    try rw [moreS_a (by omega)]
    (repeat' split)<;>first|rfl|(exfalso;omega)|(exfalso;simp_all;done)|(exfalso;simp_all;omega)|(simp_all;done)
 · have e0:=g0 (by decide)
   have e1:=g1 (by decide)
   have e2:=g2 (by decide)
   subst e0 e1 e2
   clear g0 g1 g2 g3
   rw [stepV_14 rfl] at hK
   unfold entry
   repeat' (first|((first|apply qwd|apply qa1|apply qa2|apply qh1|apply qg1 rfl|apply qcd);(try intro K hk);focus (simp only [lvS4_137,mkT,go_sem,Nat.reduceEqDiff,Nat.reduceAdd,Nat.reduceLeDiff,Nat.reduceLT,↓reduceIte,reduceCtorEq,encS_eq,List.length_cons,List.length_nil,Int.reduceEq,decide_true,decide_false,Bool.and_true];first|exact rfl|((repeat refine ai ?_);intros;apply hk;clear hk K)))|apply qw1|refine qwc lvS4_137 ?_|apply qt1|apply qw5|apply qw2|apply qt3|apply qt4|apply qt6|apply qw4|apply qj1|apply qj2|apply qj4|apply qu1|(refine qj6 ?_ ?_<;>intro hc<;>(try simp only [hc])<;>(try simp only [decide_eq_true_eq,decide_eq_false_iff_not] at hc)<;>(try (exfalso;omega))))
   all_goals
    ((first|refine fin_ret ?_|refine fin_end ?_);simp only [go_sem,↓upd_def,Nat.reduceAdd,↓reduceIte])
    refine ⟨by omega,K_eq hK ?_⟩
    clear hK
    try rw [moreS_t (by decide)]
    try rw [moreS_a (by omega)]
    (repeat' split)<;>first|rfl|(exfalso;omega)|(exfalso;simp_all;done)|(exfalso;simp_all;omega)|(simp_all;done)
set_option maxHeartbeats 8000000 in
theorem step_s:PureOk Try.prog 89 (sbC okS step):=by
 refine pure_rel 2 (tab_cons sv_s (tab_cons let_s (tab_cons nmb_s (tab_cons in_s (tab_cons more_s (tab_cons value_s (tab_cons tag_s (tab_cons script_s tab_nil)))))))) mixed [.cell 4 82] Try.func89 rfl rfl (by kernel_rfl) (by kernel_rfl) (fun _=>rfl) (by kernel_rfl) ?_
 rintro ⟨⟨m,t,a,b⟩,c⟩ K ⟨h1,h2,hok⟩ hK
 dsimp only at *
 obtain ⟨c,rfl⟩:=byte_of h1 (by omega)
 rw [ofI_nat] at hK
 cases hv:stV ⟨m,t,a,b⟩ with
 | false =>
   rw [step_bad' hv] at hK
   unfold entry
   repeat' (first|((first|apply qwd|apply qa1|apply qa2|apply qcd);(try intro K hk);focus (simp only [lvS4_89,mkT,go_sem,Nat.reduceEqDiff,Nat.reduceAdd,Nat.reduceLeDiff,Nat.reduceLT,↓reduceIte,reduceCtorEq,encS_eq,ex_St,List.length_cons,List.length_nil,Bool.not_false,Bool.and_true,hv];first|exact rfl|((repeat refine ai ?_);intros;apply hk;clear hk K)))|apply qw1|refine qwc lvS4_89 ?_|apply qt1|apply qt3|apply qw4|apply qj1)
   ((first|refine fin_ret ?_|refine fin_end ?_);simp only [go_sem,↓upd_def,Nat.reduceAdd,↓reduceIte])
   exact ⟨by omega,hK⟩
 | true =>
 rw [step_val hv] at hK
 obtain ⟨hl1,hl2⟩:=stV_len hv
 have g0:= @stV_tag0 _ hv
 have g1:= @stV_attr0 _ hv
 have g2:= @stV_seen0 _ hv
 have g3:= @stV_seen8 _ hv
 have hbn:=bare_nm c
 have hnm:nmByte c=(isLet c || isDig c || decide (c.toNat=45)):=rfl
 obtain ⟨q1,q2⟩:=cls_byte c
 dsimp only at hl1 hl2 g0 g1 g2 g3
 have hmo:=modes hv
 dsimp only at hmo
 rcases hmo with rfl|rfl|(rfl|rfl|rfl|rfl)|rfl|rfl|rfl|rfl|rfl|rfl|rfl|rfl|rfl|rfl
 · have e0:=g0 (by decide)
   have e1:=g1 (by decide)
   have e2:=g2 (by decide)
   subst e0 e1 e2
   clear g0 g1 g2 g3
   rw [stepV_0 rfl] at hK
   unfold entry
   repeat' (first|((first|apply qwd|apply qa1|apply qa2|apply qh1|apply qg1 rfl|apply qcd);(try intro K hk);focus (simp only [lvS4_89,mkT,go_sem,Nat.reduceEqDiff,Nat.reduceAdd,Nat.reduceLeDiff,Nat.reduceLT,↓reduceIte,reduceCtorEq,encS_eq,ex_St,List.length_cons,List.length_nil,decide_true,Bool.not_true,Bool.and_true,hv];first|exact rfl|((repeat refine ai ?_);intros;apply hk;clear hk K)))|apply qw1|refine qwc lvS4_89 ?_|apply qt1|apply qw5|apply qw2|apply qt3|apply qt6|apply qw4|apply qj1|apply qj3|apply qj4|apply qj5|apply qu1|(refine qj6 ?_ ?_<;>intro hc<;>(try simp only [hc])<;>(try simp only [decide_eq_true_eq,decide_eq_false_iff_not] at hc)<;>(try (exfalso;omega))))
   all_goals
    ((first|refine fin_ret ?_|refine fin_end ?_);simp only [go_sem,↓upd_def,Nat.reduceAdd,↓reduceIte])
    refine ⟨by omega,K_eq hK ?_⟩
    clear hK
    try rw [moreS_t (by decide)]
    try rw [moreS_a (by omega)]
    (repeat' split)<;>first|rfl|(exfalso;omega)|(exfalso;simp_all;done)|(exfalso;simp_all;omega)|(simp_all;done)
 · have e0:=g0 (by decide)
   have e1:=g1 (by decide)
   have e2:=g2 (by decide)
   subst e0 e1 e2
   clear g0 g1 g2 g3
   rw [stepV_1 rfl] at hK
   unfold entry
   repeat' (first|((first|apply qwd|apply qa1|apply qa2|apply qh1|apply qg1 rfl|apply qcd);(try intro K hk);focus (simp only [lvS4_89,mkT,go_sem,Nat.reduceEqDiff,Nat.reduceAdd,Nat.reduceLeDiff,Nat.reduceLT,↓reduceIte,reduceCtorEq,encS_eq,ex_St,List.length_cons,List.length_nil,ofI_nat,Int.reduceEq,Int.reduceLE,decide_true,decide_false,Bool.not_true,Bool.and_true,hv];first|exact rfl|((repeat refine ai ?_);intros;apply hk;clear hk K)))|apply qw1|refine qwc lvS4_89 ?_|apply qt1|apply qw5|apply qw2|apply qt3|apply qt4|apply qt6|apply qw4|apply qj1|apply qj2|apply qj4|apply qj5|apply qu1|(refine qj6 ?_ ?_<;>intro hc<;>(try simp only [hc])<;>(try simp only [decide_eq_true_eq,decide_eq_false_iff_not] at hc)<;>(try (exfalso;omega))))
   all_goals
    ((first|refine fin_ret ?_|refine fin_end ?_);simp only [go_sem,↓upd_def,Nat.reduceAdd,↓reduceIte])
    refine ⟨by omega,K_eq hK ?_⟩
    clear hK
    try rw [moreS_t (by decide)]
    try rw [moreS_a (by omega)]
    (repeat' split)<;>first|rfl|(exfalso;omega)|(exfalso;simp_all;done)|(exfalso;simp_all;omega)|(simp_all;done)
 · clear g0 g1 g2 g3
   unfold entry
   repeat' (first|((first|apply qwd|apply qa1|apply qa2|apply qh1|apply qg1 rfl|apply qcd);(try intro K hk);focus (simp only [lvS4_89,mkT,go_sem,Nat.reduceEqDiff,Nat.reduceAdd,Nat.reduceLeDiff,Nat.reduceLT,↓reduceIte,reduceCtorEq,encS_eq,ex_St,List.length_cons,List.length_nil,ofI_nat,Int.reduceEq,Int.reduceLE,decide_true,decide_false,Bool.not_true,Bool.and_true,hv];first|exact rfl|((repeat refine ai ?_);intros;apply hk;clear hk K)))|apply qw1|refine qwc lvS4_89 ?_|apply qt1|apply qw5|apply qw2|apply qt3|apply qt6|apply qw4|apply qj1|apply qj2|apply qj4|apply qj5|apply qu1)
   all_goals
    ((first|refine fin_ret ?_|refine fin_end ?_);simp only [go_sem,↓upd_def,Nat.reduceAdd,↓reduceIte])
    exact ⟨by omega,hK⟩
 · clear g0 g1 g2 g3
   unfold entry
   repeat' (first|((first|apply qwd|apply qa1|apply qa2|apply qh1|apply qg1 rfl|apply qcd);(try intro K hk);focus (simp only [lvS4_89,mkT,go_sem,Nat.reduceEqDiff,Nat.reduceAdd,Nat.reduceLeDiff,Nat.reduceLT,↓reduceIte,reduceCtorEq,encS_eq,ex_St,List.length_cons,List.length_nil,ofI_nat,Int.reduceEq,Int.reduceLE,decide_true,decide_false,Bool.not_true,Bool.and_true,hv];first|exact rfl|((repeat refine ai ?_);intros;apply hk;clear hk K)))|apply qw1|refine qwc lvS4_89 ?_|apply qt1|apply qw5|apply qw2|apply qt3|apply qt6|apply qw4|apply qj1|apply qj2|apply qj4|apply qj5|apply qu1)
   all_goals
    ((first|refine fin_ret ?_|refine fin_end ?_);simp only [go_sem,↓upd_def,Nat.reduceAdd,↓reduceIte])
    exact ⟨by omega,hK⟩
 · clear g0 g1 g2 g3
   unfold entry
   repeat' (first|((first|apply qwd|apply qa1|apply qa2|apply qh1|apply qg1 rfl|apply qcd);(try intro K hk);focus (simp only [lvS4_89,mkT,go_sem,Nat.reduceEqDiff,Nat.reduceAdd,Nat.reduceLeDiff,Nat.reduceLT,↓reduceIte,reduceCtorEq,encS_eq,ex_St,List.length_cons,List.length_nil,ofI_nat,Int.reduceEq,Int.reduceLE,decide_true,decide_false,Bool.not_true,Bool.and_true,hv];first|exact rfl|((repeat refine ai ?_);intros;apply hk;clear hk K)))|apply qw1|refine qwc lvS4_89 ?_|apply qt1|apply qw5|apply qw2|apply qt3|apply qt6|apply qw4|apply qj1|apply qj2|apply qj4|apply qj5|apply qu1)
   all_goals
    ((first|refine fin_ret ?_|refine fin_end ?_);simp only [go_sem,↓upd_def,Nat.reduceAdd,↓reduceIte])
    exact ⟨by omega,hK⟩
 · clear g0 g1 g2 g3
   unfold entry
   repeat' (first|((first|apply qwd|apply qa1|apply qa2|apply qh1|apply qg1 rfl|apply qcd);(try intro K hk);focus (simp only [lvS4_89,mkT,go_sem,Nat.reduceEqDiff,Nat.reduceAdd,Nat.reduceLeDiff,Nat.reduceLT,↓reduceIte,reduceCtorEq,encS_eq,ex_St,List.length_cons,List.length_nil,ofI_nat,Int.reduceEq,Int.reduceLE,decide_true,decide_false,Bool.not_true,Bool.and_true,hv];first|exact rfl|((repeat refine ai ?_);intros;apply hk;clear hk K)))|apply qw1|refine qwc lvS4_89 ?_|apply qt1|apply qw5|apply qw2|apply qt3|apply qt6|apply qw4|apply qj1|apply qj2|apply qj4|apply qj5|apply qu1)
   all_goals
    ((first|refine fin_ret ?_|refine fin_end ?_);simp only [go_sem,↓upd_def,Nat.reduceAdd,↓reduceIte])
    exact ⟨by omega,hK⟩
 · clear g0 g1 g2 g3
   unfold entry
   repeat' (first|((first|apply qwd|apply qa1|apply qa2|apply qh1|apply qg1 rfl|apply qcd);(try intro K hk);focus (simp only [lvS4_89,mkT,go_sem,Nat.reduceEqDiff,Nat.reduceAdd,Nat.reduceLeDiff,Nat.reduceLT,↓reduceIte,reduceCtorEq,encS_eq,ex_St,List.length_cons,List.length_nil,ofI_nat,Int.reduceEq,Int.reduceLE,decide_true,decide_false,Bool.not_true,Bool.and_true,hv];first|exact rfl|((repeat refine ai ?_);intros;apply hk;clear hk K)))|apply qw1|refine qwc lvS4_89 ?_|apply qt1|apply qw5|apply qw2|apply qt3|apply qt6|apply qw4|apply qj1|apply qj2|apply qj4|apply qj5|apply qu1)
   all_goals
    ((first|refine fin_ret ?_|refine fin_end ?_);simp only [go_sem,↓upd_def,Nat.reduceAdd,↓reduceIte])
    exact ⟨by omega,hK⟩
 · clear g0 g1 g2 g3
   rw [stepV_6 rfl] at hK
   unfold entry
   repeat' (first|((first|apply qwd|apply qa1|apply qa2|apply qh1|apply qg1 rfl|apply qcd);(try intro K hk);focus (simp only [lvS4_89,mkT,go_sem,Nat.reduceEqDiff,Nat.reduceAdd,Nat.reduceLeDiff,Nat.reduceLT,↓reduceIte,reduceCtorEq,encS_eq,ex_St,List.length_cons,List.length_nil,Int.reduceEq,decide_true,decide_false,Bool.not_true,Bool.and_true,hv];first|exact rfl|((repeat refine ai ?_);intros;apply hk;clear hk K)))|apply qw1|refine qwc lvS4_89 ?_|apply qt1|apply qw5|apply qw2|apply qt3|apply qt6|apply qw4|apply qj1|apply qj2|apply qj3|apply qj4|apply qj5|apply qu1|(refine qj6 ?_ ?_<;>intro hc<;>(try simp only [hc])<;>(try simp only [decide_eq_true_eq,decide_eq_false_iff_not] at hc)<;>(try (exfalso;omega))))
   all_goals
    ((first|refine fin_ret ?_|refine fin_end ?_);simp only [go_sem,↓upd_def,Nat.reduceAdd,↓reduceIte])
    refine ⟨by omega,K_eq hK ?_⟩
    clear hK
    try rw [moreS_t (by decide)]
    try rw [moreS_a (by omega)]
    (repeat' split)<;>first|rfl|(exfalso;omega)|(exfalso;simp_all;done)|(exfalso;simp_all;omega)|(simp_all;done)
 · clear g0 g1 g2 g3
   rw [stepV_7 rfl] at hK
   unfold entry
   repeat' (first|((first|apply qwd|apply qa1|apply qa2|apply qh1|apply qg1 rfl|apply qcd);(try intro K hk);focus (simp only [lvS4_89,mkT,go_sem,Nat.reduceEqDiff,Nat.reduceAdd,Nat.reduceLeDiff,Nat.reduceLT,↓reduceIte,reduceCtorEq,encS_eq,ex_St,List.length_cons,List.length_nil,Int.reduceEq,decide_true,decide_false,Bool.not_true,Bool.and_true,hv];first|exact rfl|((repeat refine ai ?_);intros;apply hk;clear hk K)))|apply qw1|refine qwc lvS4_89 ?_|apply qt1|apply qw5|apply qw2|apply qt3|apply qt6|apply qw4|apply qj1|apply qj2|apply qj4|apply qu1|(refine qj6 ?_ ?_<;>intro hc<;>(try simp only [hc])<;>(try simp only [decide_eq_true_eq,decide_eq_false_iff_not] at hc)<;>(try (exfalso;omega))))
   all_goals
    ((first|refine fin_ret ?_|refine fin_end ?_);simp only [go_sem,↓upd_def,Nat.reduceAdd,↓reduceIte])
    refine ⟨by omega,K_eq hK ?_⟩
    clear hK
    try rw [moreS_t (by decide)]
    try rw [moreS_a (by omega)]
    (repeat' split)<;>first|rfl|(exfalso;omega)|(exfalso;simp_all;done)|(exfalso;simp_all;omega)|(simp_all;done)
 · have e1:=g1 (by decide)
   have e2:=g2 (by decide)
   subst e1 e2
   clear g0 g1 g2 g3
   rw [stepV_9 rfl] at hK
   unfold entry
   repeat' (first|((first|apply qwd|apply qa1|apply qa2|apply qh1|apply qg1 rfl|apply qcd);(try intro K hk);focus (simp only [lvS4_89,mkT,go_sem,Nat.reduceEqDiff,Nat.reduceAdd,Nat.reduceLeDiff,Nat.reduceLT,↓reduceIte,reduceCtorEq,encS_eq,ex_St,List.length_cons,List.length_nil,ofI_nat,Int.reduceEq,Int.reduceLE,decide_true,decide_false,Bool.not_true,Bool.and_true,Bool.and_false,hv];first|exact rfl|((repeat refine ai ?_);intros;apply hk;clear hk K)))|apply qw1|refine qwc lvS4_89 ?_|apply qt1|apply qw5|apply qw2|apply qt3|apply qt4|apply qt6|apply qw4|apply qj1|apply qj2|apply qj3|apply qj4|apply qj5|apply qu1|(refine qj6 ?_ ?_<;>intro hc<;>(try simp only [hc])<;>(try simp only [decide_eq_true_eq,decide_eq_false_iff_not,Bool.not_eq_true',Bool.not_eq_false'] at hc)<;>(try (exfalso;omega))))
   all_goals
    ((first|refine fin_ret ?_|refine fin_end ?_);simp only [go_sem,↓upd_def,Nat.reduceAdd,↓reduceIte])
    refine ⟨by omega,K_eq hK ?_⟩
    clear hK
    try rw [moreS_t (by decide)]
    try rw [moreS_a (by omega)]
    (repeat' split)<;>first|rfl|(exfalso;omega)|(exfalso;simp_all;done)|(exfalso;simp_all;omega)|(simp_all;done)
 · have e0:=g0 (by decide)
   have e1:=g1 (by decide)
   have e2:=g2 (by decide)
   subst e0 e1 e2
   clear g0 g1 g2 g3
   rw [stepV_10 rfl] at hK
   unfold entry
   repeat' (first|((first|apply qwd|apply qa1|apply qa2|apply qh1|apply qg1 rfl|apply qcd);(try intro K hk);focus (simp only [lvS4_89,mkT,go_sem,Nat.reduceEqDiff,Nat.reduceAdd,Nat.reduceLeDiff,Nat.reduceLT,↓reduceIte,reduceCtorEq,encS_eq,ex_St,List.length_cons,List.length_nil,Int.reduceEq,decide_true,decide_false,Bool.not_true,Bool.and_true,hv];first|exact rfl|((repeat refine ai ?_);intros;apply hk;clear hk K)))|apply qw1|refine qwc lvS4_89 ?_|apply qt1|apply qw5|apply qw2|apply qt3|apply qt6|apply qw4|apply qj1|apply qj2|apply qj4|apply qu1|(refine qj6 ?_ ?_<;>intro hc<;>(try simp only [hc])<;>(try simp only [decide_eq_true_eq,decide_eq_false_iff_not] at hc)<;>(try (exfalso;omega))))
   all_goals
    ((first|refine fin_ret ?_|refine fin_end ?_);simp only [go_sem,↓upd_def,Nat.reduceAdd,↓reduceIte])
    refine ⟨by omega,K_eq hK ?_⟩
    clear hK
    try rw [moreS_t (by decide)]
    try rw [moreS_a (by omega)]
    (repeat' split)<;>first|rfl|(exfalso;omega)|(exfalso;simp_all;done)|(exfalso;simp_all;omega)|(simp_all;done)
 · clear g0 g1 g2 g3
   unfold entry
   repeat' (first|((first|apply qwd|apply qa1|apply qa2|apply qh1|apply qg1 rfl|apply qcd);(try intro K hk);focus (simp only [lvS4_89,mkT,go_sem,Nat.reduceEqDiff,Nat.reduceAdd,Nat.reduceLeDiff,Nat.reduceLT,↓reduceIte,reduceCtorEq,encS_eq,ex_St,List.length_cons,List.length_nil,ofI_nat,Int.reduceEq,Int.reduceLE,decide_true,decide_false,Bool.not_true,Bool.and_true,Bool.and_false,hv];first|exact rfl|((repeat refine ai ?_);intros;apply hk;clear hk K)))|apply qw1|refine qwc lvS4_89 ?_|apply qt1|apply qw5|apply qw2|apply qt3|apply qt6|apply qw4|apply qj1|apply qj2|apply qj4|apply qj5|apply qu1)
   all_goals
    ((first|refine fin_ret ?_|refine fin_end ?_);simp only [go_sem,↓upd_def,Nat.reduceAdd,↓reduceIte])
    exact ⟨by omega,hK⟩
 · clear g0 g1 g2 g3
   unfold entry
   repeat' (first|((first|apply qwd|apply qa1|apply qa2|apply qh1|apply qg1 rfl|apply qcd);(try intro K hk);focus (simp only [lvS4_89,mkT,go_sem,Nat.reduceEqDiff,Nat.reduceAdd,Nat.reduceLeDiff,Nat.reduceLT,↓reduceIte,reduceCtorEq,encS_eq,ex_St,List.length_cons,List.length_nil,ofI_nat,Int.reduceEq,Int.reduceLE,decide_true,decide_false,Bool.not_true,Bool.and_true,Bool.and_false,hv];first|exact rfl|((repeat refine ai ?_);intros;apply hk;clear hk K)))|apply qw1|refine qwc lvS4_89 ?_|apply qt1|apply qw5|apply qw2|apply qt3|apply qt6|apply qw4|apply qj1|apply qj2|apply qj4|apply qj5|apply qu1)
   all_goals
    ((first|refine fin_ret ?_|refine fin_end ?_);simp only [go_sem,↓upd_def,Nat.reduceAdd,↓reduceIte])
    exact ⟨by omega,hK⟩
 · clear g0 g1 g2 g3
   unfold entry
   repeat' (first|((first|apply qwd|apply qa1|apply qa2|apply qh1|apply qg1 rfl|apply qcd);(try intro K hk);focus (simp only [lvS4_89,mkT,go_sem,Nat.reduceEqDiff,Nat.reduceAdd,Nat.reduceLeDiff,Nat.reduceLT,↓reduceIte,reduceCtorEq,encS_eq,ex_St,List.length_cons,List.length_nil,ofI_nat,Int.reduceEq,Int.reduceLE,decide_true,decide_false,Bool.not_true,Bool.and_true,Bool.and_false,hv];first|exact rfl|((repeat refine ai ?_);intros;apply hk;clear hk K)))|apply qw1|refine qwc lvS4_89 ?_|apply qt1|apply qw5|apply qw2|apply qt3|apply qt6|apply qw4|apply qj1|apply qj2|apply qj4|apply qj5|apply qu1)
   all_goals
    ((first|refine fin_ret ?_|refine fin_end ?_);simp only [go_sem,↓upd_def,Nat.reduceAdd,↓reduceIte])
    exact ⟨by omega,hK⟩
 · clear g0 g1 g2 g3
   unfold entry
   repeat' (first|((first|apply qwd|apply qa1|apply qa2|apply qh1|apply qg1 rfl|apply qcd);(try intro K hk);focus (simp only [lvS4_89,mkT,go_sem,Nat.reduceEqDiff,Nat.reduceAdd,Nat.reduceLeDiff,Nat.reduceLT,↓reduceIte,reduceCtorEq,encS_eq,ex_St,List.length_cons,List.length_nil,ofI_nat,Int.reduceEq,Int.reduceLE,decide_true,decide_false,Bool.not_true,Bool.and_true,Bool.and_false,hv];first|exact rfl|((repeat refine ai ?_);intros;apply hk;clear hk K)))|apply qw1|refine qwc lvS4_89 ?_|apply qt1|apply qw5|apply qw2|apply qt3|apply qt6|apply qw4|apply qj1|apply qj2|apply qj4|apply qj5|apply qu1)
   all_goals
    ((first|refine fin_ret ?_|refine fin_end ?_);simp only [go_sem,↓upd_def,Nat.reduceAdd,↓reduceIte])
    exact ⟨by omega,hK⟩
 · have e0:=g0 (by decide)
   have e1:=g1 (by decide)
   have e2:=g2 (by decide)
   subst e0 e1 e2
   clear g0 g1 g2 g3
   rw [stepV_15 rfl] at hK
   unfold entry
   repeat' (first|((first|apply qwd|apply qa1|apply qa2|apply qh1|apply qg1 rfl|apply qcd);(try intro K hk);focus (simp only [lvS4_89,mkT,go_sem,Nat.reduceEqDiff,Nat.reduceAdd,Nat.reduceLeDiff,Nat.reduceLT,↓reduceIte,reduceCtorEq,encS_eq,ex_St,List.length_cons,List.length_nil,Int.reduceEq,Int.reduceLE,decide_true,decide_false,Bool.not_true,Bool.and_true,Bool.and_false,hv];first|exact rfl|((repeat refine ai ?_);intros;apply hk;clear hk K)))|apply qw1|refine qwc lvS4_89 ?_|apply qt1|apply qw5|apply qw2|apply qt4|apply qw4|apply qj2|apply qj4|apply qj5|apply qu1)
   all_goals
    ((first|refine fin_ret ?_|refine fin_end ?_);simp only [go_sem,↓upd_def,Nat.reduceAdd,↓reduceIte])
    refine ⟨by omega,K_eq hK ?_⟩
    clear hK
    try rw [moreS_t (by decide)]
    try rw [moreS_a (by omega)]
    (repeat' split)<;>first|rfl|(exfalso;omega)|(exfalso;simp_all;done)|(exfalso;simp_all;omega)|(simp_all;done)
end Go.Proofs.Ytnbjogilidfkdaa

/- Contracts: parts of addresses and script texts, written and read back. -/
namespace Go.Proofs.Ytnbjogilidfkdaa
attribute [local irreducible] awp arun acalm FinP Fin AX.then AX.inBlock Again aG gsel amix amixN amixC aop aopc aopd cutK
attribute [local go_sem] aBSliceD aSlice aSliceC boundOf aMk aCall aCallC aLenL aLen aPick_t aPick_f aNil aAlloc aBox aBuild bldPV aBSlice bsPV aApp newsOf destOf drp aConvX aConv aConvInt aLoad cellsAt aStore cellsPV setAt aFld aField aIdx aIndex aUn aBin' aBin aMax aExtract pvOf PV.isCell nmbL PV.nmb List.map_cons List.map_nil List.all_cons List.all_nil Bool.and_true Bool.true_and if_true if_false List.getD_cons_zero List.getD_cons_succ List.getD_nil Option.isSome_some true_and and_true and_self eq_self true_or or_true List.drop_zero List.drop_succ_cons List.drop_nil List.take_zero List.take_succ_cons List.take_nil List.length_cons List.length_nil List.length_map Option.getD_some Option.getD_none List.nil_append List.cons_append List.append_nil Option.some.injEq exists_eq_left' List.getElem?_cons_zero List.getElem?_cons_succ Int.toNat_natCast Int.natCast_inj toNat_succ Nat.zero_add res res1 resC owns owns1 ownsC List.flatMap_cons List.flatMap_nil List.flatten_cons List.flatten_nil List.mem_cons List.not_mem_nil or_false false_or forall_eq forall_eq_or_imp isFro frz frz1 pureC tabA isBld List.cons.injEq PV.seq.injEq PV.int.injEq PV.str.injEq PV.bool.injEq PV.agg.injEq inR tab Γof aRes packR Option.map_some Option.map_none rel Prod.exists exists_and_left exists_eq_left and_assoc beq_self_eq_true Bool.not_true Bool.not_false decide_true decide_false List.set_cons_zero List.set_cons_succ rst_nil rst_cons
attribute [local go_sem ↓] evT upd_def aop aopc aopd
set_option maxRecDepth 100000
set_option linter.unusedVariables false
set_option linter.unusedSimpArgs false
open Go.RowKit
theorem ixs_any (s:ByteArray) (c:Int) (w:World) :
 Calls Try.prog 143 #[.string s,.int .u8 c] w fun e w'=>e= .returned (.int .i64 (Lib.indexByte s.data.toList c.toNat.toUInt8))∧w'=w:=by
 go_enter Try.func143,Try.ntmps143
 go_wp2
 rw [run_callFunc_extern Try.func152 (by kernel_rfl) (by kernel_rfl) (by kernel_rfl) (e:=Extern.BytealgIndexByte.indexByte) (by kernel_rfl),Lib.run_indexByteString]
 simp only [Result.andThen]
 rw [Oper.upon_value]
 go_wp2
 go_ret
 exact ⟨rfl,rfl⟩
@[go_sem] def ixC:PC:=rel (α:=Bs×Int) (fun x=>[.str x.1,.int .u8 x.2]) (fun x=>0≤x.2∧x.2<256) (fun x=> .int .i64 (ixB x.1 (ofI x.2)))
theorem ixs_c:PureOk Try.prog 143 ixC:=by
 refine rel_of_calls ⟨_,Try.func143,by kernel_rfl,by kernel_rfl⟩ ?_
 rintro c ⟨s,x⟩ vs hc hl hr
 simp only [RepL.cons_iff,RepL.nil_iff] at hr
 obtain ⟨v,_,rfl,hv,u,_,rfl,hu,rfl⟩:=hr
 unfold Rep at hv hu
 subst hv hu
 refine (ixs_any ⟨s.toArray⟩ x c.w).mono ?_
 rintro e w' ⟨rfl,rfl⟩
 refine ⟨_,rfl,?_,Below.refl _ _⟩
 unfold Rep
 rfl
theorem ix_any:PureOk Try.prog 117 ixC:=by
 refine pure_rel 2 (tab_cons ixs_c tab_nil) mixed [.tmp 4] Try.func117 rfl rfl (by kernel_rfl) (by kernel_rfl) (fun _=>rfl) (by kernel_rfl) ?_
 rintro ⟨s,x⟩ K ⟨h0,h1⟩ hK
 dsimp only at *
 unfold entry
 repeat' (first|((first|apply qa1);(try intro K hk);focus (simp only [go_sem,Nat.reduceEqDiff,↓reduceIte,reduceCtorEq];first|exact rfl|((repeat refine ai ?_);intros;apply hk;clear hk K)))|apply qw8|apply qw1|apply qw6|apply qt1|apply qw4)
 ((first|refine fin_ret ?_|refine fin_end ?_);simp only [go_sem,↓upd_def,↓reduceIte])
 exact hK
end Go.Proofs.Ytnbjogilidfkdaa
