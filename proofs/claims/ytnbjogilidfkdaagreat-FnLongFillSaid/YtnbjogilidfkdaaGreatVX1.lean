/- Contracts of the small functions on bytes and texts. -/
import Derived.Test.YtnbjogilidfkdaaGreatVFB
import Derived.Test.YtnbjogilidfkdaaGreatVTY
import Derived.Test.YtnbjogilidfkdaaGreatVD1
import Derived.Test.YtnbjogilidfkdaaGreatVWL
import Derived.Test.YtnbjogilidfkdaaGreatVF12

namespace Go.Proofs.YtnbjogilidfkdaaGreat
attribute [local irreducible] awp arun acalm FinP Fin AX.then AX.inBlock Again aG gsel amix amixN amixC aop aopc aopd cutK
attribute [local go_sem] aBSliceD aSlice aSliceC boundOf aMk aCall aCallC aLenL aLen aPick_t aPick_f aNil aAlloc aBox aBuild bldPV aBSlice bsPV aApp newsOf destOf drp aConvX aConv aConvInt aLoad cellsAt aStore cellsPV setAt aFld aField aIdx aIndex aUn aBin' aBin aMax aExtract pvOf PV.isCell nmbL PV.nmb List.map_cons List.map_nil List.all_cons List.all_nil Bool.and_true Bool.true_and if_true if_false List.getD_cons_zero List.getD_cons_succ List.getD_nil Option.isSome_some true_and and_true and_self eq_self true_or or_true List.drop_zero List.drop_succ_cons List.drop_nil List.take_zero List.take_succ_cons List.take_nil List.length_cons List.length_nil List.length_map Option.getD_some Option.getD_none List.nil_append List.cons_append List.append_nil Option.some.injEq exists_eq_left' List.getElem?_cons_zero List.getElem?_cons_succ Int.toNat_natCast Int.natCast_inj toNat_succ Nat.zero_add res res1 resC owns owns1 ownsC List.flatMap_cons List.flatMap_nil List.flatten_cons List.flatten_nil List.mem_cons List.not_mem_nil or_false false_or forall_eq forall_eq_or_imp isFro frz frz1 pureC tabA isBld List.cons.injEq PV.seq.injEq PV.int.injEq PV.str.injEq PV.bool.injEq PV.agg.injEq inR tab Γof aRes packR Option.map_some Option.map_none rel Prod.exists exists_and_left exists_eq_left and_assoc beq_self_eq_true Bool.not_true Bool.not_false decide_true decide_false List.set_cons_zero List.set_cons_succ rst_nil rst_cons
attribute [local go_sem ↓] evT upd_def aop aopc aopd
set_option maxRecDepth 100000
set_option linter.unusedVariables false
set_option linter.unusedSimpArgs false
open Go.RowKit
theorem toNat_2 (k:Nat):((k:Int)+2).toNat=k+2:=by omega
def BIG:Nat:=1099511627776
@[go_sem] theorem BIG_def:BIG=1099511627776:=rfl
/-- A function of a byte. -/
@[go_sem] def byC (f:UInt8→PV):PC:=rel (α:=Int) (fun x=>[.int .u8 x]) (fun x=>0≤x∧x<256) (fun x=>f (ofI x))
/-- A function of a text. -/
@[go_sem] def tC (f:Bs→PV):PC:=rel (α:=Bs) (fun s=>[.str s]) (fun s=>s.length≤1099511627776) f
theorem isLet_t {b:UInt8} (h:(97≤b.toNat∧b.toNat≤122)∨(65≤b.toNat∧b.toNat≤90)):isLet b=true:=decide_eq_true h
theorem isLet_f {b:UInt8} (h: ¬ ((97≤b.toNat∧b.toNat≤122)∨(65≤b.toNat∧b.toNat≤90))):isLet b=false:=decide_eq_false h
theorem isDig_t {b:UInt8} (h:48≤b.toNat∧b.toNat≤57):isDig b=true:=decide_eq_true h
theorem isDig_f {b:UInt8} (h: ¬ (48≤b.toNat∧b.toNat≤57)):isDig b=false:=decide_eq_false h
set_option maxHeartbeats 4000000 in
theorem let_i:PureOk Tryz.prog 75 (byC fun b=> .bool (isLet b)):=by
 refine pure_rel 1 tab_nil mixed [.tmp 2] Tryz.func75 rfl rfl (by kernel_rfl) (by kernel_rfl) (fun _=>rfl) (by kernel_rfl) ?_
 rintro x K ⟨h0,h1⟩ hK
 obtain ⟨b,rfl⟩:=byte_of h0 h1
 simp only [ofI_nat] at hK
 unfold entry
 repeat' (first|((first|apply qa1|apply qh1|apply qg1 rfl);(try intro K hk);focus (simp only [go_sem,Nat.reduceEqDiff,↓reduceIte,reduceCtorEq];first|exact rfl|((repeat refine ai ?_);intros;apply hk;clear hk K)))|apply qw8|apply qw1|apply qw6|apply qt1|apply qw4|apply qj1|apply qj2|apply qj3|apply qj4|apply qj5|apply qu1|(refine qj6 ?_ ?_<;>intro hc<;>(try simp only [hc])<;>(try simp only [decide_eq_true_eq,decide_eq_false_iff_not] at hc)<;>(try (exfalso;omega))))
 all_goals
  ((first|refine fin_ret ?_|refine fin_end ?_);simp only [go_sem,↓upd_def,↓reduceIte])
  exact K_bool hK (by first|exact isLet_t (by omega)|exact isLet_f (by omega)|exact decide_eq_decide.2 (by omega))
set_option maxHeartbeats 4000000 in
theorem let_s:PureOk Tryz.prog 147 (byC fun b=> .bool (isLet b)):=by
 refine pure_rel 1 tab_nil mixed [.tmp 2] Tryz.func147 rfl rfl (by kernel_rfl) (by kernel_rfl) (fun _=>rfl) (by kernel_rfl) ?_
 rintro x K ⟨h0,h1⟩ hK
 obtain ⟨b,rfl⟩:=byte_of h0 h1
 simp only [ofI_nat] at hK
 unfold entry
 repeat' (first|((first|apply qa1|apply qh1|apply qg1 rfl);(try intro K hk);focus (simp only [go_sem,Nat.reduceEqDiff,↓reduceIte,reduceCtorEq];first|exact rfl|((repeat refine ai ?_);intros;apply hk;clear hk K)))|apply qw8|apply qw1|apply qw6|apply qt1|apply qw4|apply qj1|apply qj2|apply qj3|apply qj4|apply qj5|apply qu1|(refine qj6 ?_ ?_<;>intro hc<;>(try simp only [hc])<;>(try simp only [decide_eq_true_eq,decide_eq_false_iff_not] at hc)<;>(try (exfalso;omega))))
 all_goals
  ((first|refine fin_ret ?_|refine fin_end ?_);simp only [go_sem,↓upd_def,↓reduceIte])
  exact K_bool hK (by first|exact isLet_t (by omega)|exact isLet_f (by omega)|exact decide_eq_decide.2 (by omega))
set_option maxHeartbeats 4000000 in
theorem digb_i:PureOk Tryz.prog 78 (byC fun b=> .bool (isDig b)):=by
 refine pure_rel 1 tab_nil mixed [.tmp 2] Tryz.func78 rfl rfl (by kernel_rfl) (by kernel_rfl) (fun _=>rfl) (by kernel_rfl) ?_
 rintro x K ⟨h0,h1⟩ hK
 obtain ⟨b,rfl⟩:=byte_of h0 h1
 simp only [ofI_nat] at hK
 unfold entry
 repeat' (first|((first|apply qa1|apply qh1|apply qg1 rfl);(try intro K hk);focus (simp only [go_sem,Nat.reduceEqDiff,↓reduceIte,reduceCtorEq];first|exact rfl|((repeat refine ai ?_);intros;apply hk;clear hk K)))|apply qw8|apply qw1|apply qw6|apply qt1|apply qw4|apply qj1|apply qj4|apply qu1|(refine qj6 ?_ ?_<;>intro hc<;>(try simp only [hc])<;>(try simp only [decide_eq_true_eq,decide_eq_false_iff_not] at hc)<;>(try (exfalso;omega))))
 all_goals
  ((first|refine fin_ret ?_|refine fin_end ?_);simp only [go_sem,↓upd_def,↓reduceIte])
  exact K_bool hK (by first|exact isDig_t (by omega)|exact isDig_f (by omega)|exact decide_eq_decide.2 (by omega))
set_option maxHeartbeats 4000000 in
theorem digb_s:PureOk Tryz.prog 105 (byC fun b=> .bool (isDig b)):=by
 refine pure_rel 1 tab_nil mixed [.tmp 2] Tryz.func105 rfl rfl (by kernel_rfl) (by kernel_rfl) (fun _=>rfl) (by kernel_rfl) ?_
 rintro x K ⟨h0,h1⟩ hK
 obtain ⟨b,rfl⟩:=byte_of h0 h1
 simp only [ofI_nat] at hK
 unfold entry
 repeat' (first|((first|apply qa1|apply qh1|apply qg1 rfl);(try intro K hk);focus (simp only [go_sem,Nat.reduceEqDiff,↓reduceIte,reduceCtorEq];first|exact rfl|((repeat refine ai ?_);intros;apply hk;clear hk K)))|apply qw8|apply qw1|apply qw6|apply qt1|apply qw4|apply qj1|apply qj4|apply qu1|(refine qj6 ?_ ?_<;>intro hc<;>(try simp only [hc])<;>(try simp only [decide_eq_true_eq,decide_eq_false_iff_not] at hc)<;>(try (exfalso;omega))))
 all_goals
  ((first|refine fin_ret ?_|refine fin_end ?_);simp only [go_sem,↓upd_def,↓reduceIte])
  exact K_bool hK (by first|exact isDig_t (by omega)|exact isDig_f (by omega)|exact decide_eq_decide.2 (by omega))
@[go_sem] def hasC:PC:=rel (α:=Bs×Int) (fun x=>[.str x.1,.int .u8 x.2]) (fun x=>x.1.length≤1099511627776∧0≤x.2∧x.2<256) (fun x=> .bool (hasB x.1 (ofI x.2)))
set_option maxHeartbeats 4000000 in
theorem has_i:PureOk Tryz.prog 101 hasC:=by
 refine pure_rel 2 tab_nil mixed [.tmp 4] Tryz.func101 rfl rfl (by kernel_rfl) (by kernel_rfl) (fun _=>rfl) (by kernel_rfl) ?_
 rintro ⟨s,x⟩ K ⟨hl,h0,h1⟩ hK
 obtain ⟨b,hb⟩:=byte_of h0 h1
 dsimp only at *
 subst hb
 simp only [ofI_nat] at hK
 unfold entry
 repeat' (first|((first|apply qa1);(try intro K hk);focus (simp only [go_sem];first|exact rfl|((repeat refine ai ?_);intros;apply hk;clear hk K)))|apply qw8|apply qw1|apply qw6|apply qt1|apply qw5)
 refine s_loop (ι:=Nat) (fun k=>[(0,.str s),(1,.int .u8 b.toNat),(5,.int .i64 k)]) (fun _=>[]) 0 (fun k=>k≤s.length∧hasB (s.take k) b=false) (fun k=>s.length - k) 0 (by omega) ⟨by omega,by simp [hasB]⟩ ?_ ?_
 · simp [fits,fitsT,fitsM,upd_def,PV.nmb]
 rintro k ⟨hk,hp⟩
 have hbl:=byte_lt s k
 simp only [mkS,mkT,mkM]
 repeat' (first|((first|apply qa1|apply qcd);(try intro K hk);focus (simp only [go_sem,Nat.reduceEqDiff,↓reduceIte,reduceCtorEq];first|exact rfl|((repeat refine ai ?_);intros;apply hk;clear hk K)))|apply qw8|apply qw1|apply qw6|apply qt1|apply qw5|apply qw2|apply qt2|apply qt3|apply qt4|apply qt5|apply qt6|apply qw3|apply qw4|apply qj1|apply qj4|(refine qj6 ?_ ?_<;>intro hc<;>(try simp only [hc])<;>(try simp only [decide_eq_true_eq,decide_eq_false_iff_not] at hc)<;>(try (exfalso;omega))))
 · ((first|refine fin_ret ?_|refine fin_end ?_);simp only [go_sem,↓upd_def,↓reduceIte])
   exact K_bool hK (hasB_at (k:=k) (by omega) (by omega))
 · refine s_again (k+1) ?_ ?_ ?_<;>(first|omega|(dsimp only;omega)|skip)
   · exact ⟨by omega,by rw [hasB_snoc (by omega),hp,decide_eq_false (by omega)];rfl⟩
   · simp [fits,fitsT,fitsM,upd_def,PV.nmb]
 · ((first|refine fin_ret ?_|refine fin_end ?_);simp only [go_sem,↓upd_def,↓reduceIte])
   rw [List.take_of_length_le (by omega)] at hp
   exact K_bool hK hp
theorem low_same (s:Bs):lowL s=lowS s:=by
 unfold lowL lowS
 refine List.map_congr_left fun b _=>?_
 apply UInt8.toNat_inj.1
 rw [lowB_nat,low1_nat]
theorem low_i:PureOk Tryz.prog 37 (tC fun s=> .str (lowS s)):=by
 refine rel_of_calls ⟨_,Tryz.func37,by kernel_rfl,by kernel_rfl⟩ ?_
 intro c s vs hc hl hr
 simp only [RepL.cons_iff,RepL.nil_iff] at hr
 obtain ⟨v,_,rfl,hv,rfl⟩:=hr
 unfold Rep at hv
 subst hv
 refine (lowerText_i ⟨s.toArray⟩ (by show s.length≤maxLen;unfold maxLen;omega) c.w).mono ?_
 rintro e w' ⟨rfl,hb⟩
 refine ⟨_,rfl,?_,hb⟩
 rw [← low_same]
 unfold Rep
 rfl
set_option maxHeartbeats 4000000 in
theorem low_s:PureOk Tryz.prog 148 (tC fun s=> .str (lowS s)):=by
 refine pure_rel 1 tab_nil mixed [.tmp 2] Tryz.func148 rfl rfl (by kernel_rfl) (by kernel_rfl) (fun _=>rfl) (by kernel_rfl) ?_
 rintro s K hl hK
 unfold entry
 repeat' (first|((first|apply qa1);(try intro K hk);focus (simp only [go_sem,↓reduceIte];first|exact rfl|((repeat refine ai ?_);intros;apply hk;clear hk K)))|apply qw8|apply qw1|apply qw6|apply qt1|apply qw5)
 refine s_loop (ι:=Nat) (fun k=>[(0,.str s),(3,.own 0),(4,.int .i64 k)]) (fun k=>[(0,.row 5 1 ((lowS (s.take k)).map bc))]) 1 (fun k=>k≤s.length) (fun k=>s.length - k) 0 (by omega) (by omega) ?_ ?_
 · simp [fits,fitsT,fitsM,upd_def,PV.nmb,MB.nmb,lowS]
 intro k hk
 have hbl:=byte_lt s k
 have hL1:(lowS (s.take k)).length=k:=by simp [lowS,hk]
 simp only [mkS,mkT,mkM]
 repeat' (first|((first|apply qa1|apply qh1|apply qg1 rfl|apply qcd);(try intro K hk);focus (simp only [go_sem,Nat.reduceEqDiff,Nat.reduceAdd,Nat.reduceLeDiff,↓reduceIte,reduceCtorEq];first|exact rfl|((repeat refine ai ?_);intros;apply hk;clear hk K)))|apply qw8|apply qw1|apply qw6|apply qt1|apply qw5|apply qw2|apply qt2|apply qt4|apply qt5|apply qw3|apply qw4|apply qj1|apply qj4|apply qu1|(refine qj6 ?_ ?_<;>intro hc<;>(try simp only [hc])<;>(try simp only [decide_eq_true_eq,decide_eq_false_iff_not] at hc)<;>(try (exfalso;omega))))
 all_goals first
  | (have hS:(lowS (s.take (k+1))).map bc=(lowS (s.take k)).map bc++[[.int .u8 ((low1 (s.getD k 0)).toNat:Int)]]:=by
      unfold lowS
      rw [map_snoc (by omega),List.map_append]
      rfl
     rw [low1_nat] at hS
     first|rw [if_pos (by omega)] at hS|rw [if_neg (by omega)] at hS
     refine s_againR (k+1) (fun i=>if i=0 then 2 else i) ?_ ?_ ?_ ?_ ?_ ?_<;>(first|omega|(dsimp only;omega)|(intro i hi;(try dsimp only);(repeat' split)<;>omega)|(intro i j hi hj h;(try dsimp only at h);(repeat' split at h)<;>omega)|skip)
     · simp [fitsTR,PV.ren,upd_def,PV.nmb]
     · simp [fitsMR,MB.ren,upd_def,MB.nmb,hS]
     done)
  | (((first|refine fin_ret ?_|refine fin_end ?_);simp only [go_sem,↓upd_def,↓reduceIte])
     rw [List.take_of_length_le (by omega)]
     exact hK)
set_option maxHeartbeats 4000000 in
theorem ent_i:PureOk Tryz.prog 98 (byC fun b=> .str (entOf b)):=by
 refine pure_rel 1 tab_nil mixed [.tmp 2] Tryz.func98 rfl rfl (by kernel_rfl) (by kernel_rfl) (fun _=>rfl) (by kernel_rfl) ?_
 rintro x K ⟨h0,h1⟩ hK
 obtain ⟨b,rfl⟩:=byte_of h0 h1
 simp only [ofI_nat] at hK
 unfold entry
 repeat' (first|((first|apply qa1|apply qcd);(try intro K hk);focus (simp only [go_sem,Nat.reduceEqDiff,↓reduceIte,reduceCtorEq];first|exact rfl|((repeat refine ai ?_);intros;apply hk;clear hk K)))|apply qw8|apply qw1|apply qw6|apply qt1|apply qw5|apply qw2|apply qt3|apply qt4|apply qt6|apply qw4|apply qj1|apply qj4|(refine qj6 ?_ ?_<;>intro hc<;>(try simp only [hc])<;>(try simp only [decide_eq_true_eq,decide_eq_false_iff_not] at hc)<;>(try (exfalso;omega))))
 all_goals
  ((first|refine fin_ret ?_|refine fin_end ?_);simp only [go_sem,↓upd_def,↓reduceIte])
  exact K_str hK (by unfold entOf;(repeat' split)<;>first|rfl|omega)
set_option maxHeartbeats 4000000 in
theorem ent_s:PureOk Tryz.prog 129 (byC fun b=> .str (ent1 b)):=by
 refine pure_rel 1 tab_nil mixed [.tmp 2] Tryz.func129 rfl rfl (by kernel_rfl) (by kernel_rfl) (fun _=>rfl) (by kernel_rfl) ?_
 rintro x K ⟨h0,h1⟩ hK
 obtain ⟨b,rfl⟩:=byte_of h0 h1
 simp only [ofI_nat] at hK
 unfold entry
 repeat' (first|((first|apply qa1|apply qcd);(try intro K hk);focus (simp only [go_sem,Nat.reduceEqDiff,↓reduceIte,reduceCtorEq];first|exact rfl|((repeat refine ai ?_);intros;apply hk;clear hk K)))|apply qw8|apply qw1|apply qw6|apply qt1|apply qw5|apply qw2|apply qt3|apply qt4|apply qt6|apply qw4|apply qj1|apply qj4|(refine qj6 ?_ ?_<;>intro hc<;>(try simp only [hc])<;>(try simp only [decide_eq_true_eq,decide_eq_false_iff_not] at hc)<;>(try (exfalso;omega))))
 all_goals
  ((first|refine fin_ret ?_|refine fin_end ?_);simp only [go_sem,↓upd_def,↓reduceIte])
  first
   | exact K_str hK (by unfold ent1 entOf;(repeat' split)<;>first|rfl|omega|simp_all)
   | skip
end Go.Proofs.YtnbjogilidfkdaaGreat

/- Contracts: names, the reference. -/
namespace Go.Proofs.YtnbjogilidfkdaaGreat
attribute [local irreducible] awp arun acalm FinP Fin AX.then AX.inBlock Again aG gsel amix amixN amixC aop aopc aopd cutK
attribute [local go_sem] aBSliceD aSlice aSliceC boundOf aMk aCall aCallC aLenL aLen aPick_t aPick_f aNil aAlloc aBox aBuild bldPV aBSlice bsPV aApp newsOf destOf drp aConvX aConv aConvInt aLoad cellsAt aStore cellsPV setAt aFld aField aIdx aIndex aUn aBin' aBin aMax aExtract pvOf PV.isCell nmbL PV.nmb List.map_cons List.map_nil List.all_cons List.all_nil Bool.and_true Bool.true_and if_true if_false List.getD_cons_zero List.getD_cons_succ List.getD_nil Option.isSome_some true_and and_true and_self eq_self true_or or_true List.drop_zero List.drop_succ_cons List.drop_nil List.take_zero List.take_succ_cons List.take_nil List.length_cons List.length_nil List.length_map Option.getD_some Option.getD_none List.nil_append List.cons_append List.append_nil Option.some.injEq exists_eq_left' List.getElem?_cons_zero List.getElem?_cons_succ Int.toNat_natCast Int.natCast_inj toNat_succ Nat.zero_add res res1 resC owns owns1 ownsC List.flatMap_cons List.flatMap_nil List.flatten_cons List.flatten_nil List.mem_cons List.not_mem_nil or_false false_or forall_eq forall_eq_or_imp isFro frz frz1 pureC tabA isBld List.cons.injEq PV.seq.injEq PV.int.injEq PV.str.injEq PV.bool.injEq PV.agg.injEq inR tab Γof aRes packR Option.map_some Option.map_none rel Prod.exists exists_and_left exists_eq_left and_assoc beq_self_eq_true Bool.not_true Bool.not_false decide_true decide_false List.set_cons_zero List.set_cons_succ rst_nil rst_cons
attribute [local go_sem ↓] evT upd_def aop aopc aopd
set_option maxRecDepth 100000
set_option linter.unusedVariables false
set_option linter.unusedSimpArgs false
open Go.RowKit
@[go_sem] def inC:PC:=rel (α:=Int×Int×Int) (fun x=>[.int .i64 x.1,.int .i64 x.2.1,.int .i64 x.2.2]) (fun _=>True) (fun x=> .bool (decide (x.2.1≤x.1) && decide (x.1≤x.2.2)))
theorem in_s:PureOk Tryz.prog 106 inC:=by
 refine pure_rel 3 tab_nil mixed [.tmp 6] Tryz.func106 rfl rfl (by kernel_rfl) (by kernel_rfl) (fun _=>rfl) (by kernel_rfl) ?_
 rintro ⟨n,lo,hi⟩ K _ hK
 dsimp only at *
 unfold entry
 repeat' (first|((first|apply qa1|apply qh1|apply qg1 rfl);(try intro K hk);focus (simp only [go_sem,Nat.reduceEqDiff,↓reduceIte,reduceCtorEq];first|exact rfl|((repeat refine ai ?_);intros;apply hk;clear hk K)))|apply qw8|apply qw1|apply qw6|apply qt1|apply qw4|apply qj1|apply qj4|apply qu1|(refine qj6 ?_ ?_<;>intro hc<;>(try simp only [hc])<;>(try simp only [decide_eq_true_eq,decide_eq_false_iff_not] at hc)<;>(try (exfalso;omega))))
 all_goals
  ((first|refine fin_ret ?_|refine fin_end ?_);simp only [go_sem,↓upd_def,↓reduceIte])
  refine K_bool hK ?_
  clear hK
  simp [*]
set_option maxHeartbeats 8000000 in
theorem name_s:PureOk Tryz.prog 68 (strC nameB):=by
 refine pure_rel 1 (tab_cons dig_s (tab_cons in_s tab_nil)) mixed [.tmp 2] Tryz.func68 rfl rfl (by kernel_rfl) (by kernel_rfl) (fun _=>rfl) (by kernel_rfl) ?_
 rintro s K hl hK
 unfold entry
 repeat' (first|((first|apply qa1);(try intro K hk);focus (simp only [go_sem];first|exact rfl|((repeat refine ai ?_);intros;apply hk;clear hk K)))|apply qw8|apply qw1|apply qw6|apply qt1|apply qw5)
 refine s_loop (ι:=Nat) (fun k=>[(0,.str s),(3,.int .i64 k)]) (fun _=>[]) 0 (fun k=>k≤s.length∧allB okNm (s.take k)=true∧(0<k→97≤(s.getD 0 0).toNat∧(s.getD 0 0).toNat≤122)) (fun k=>s.length - k) 0 (by omega) ⟨by omega,by simp [allB],by omega⟩ ?_ ?_
 · simp [fits,fitsT,fitsM,upd_def,PV.nmb]
 rintro k ⟨hk,hp,hp0⟩
 have hb:=byte_lt s k
 simp only [mkS,mkT,mkM]
 repeat' (first|((first|apply qa1|apply qh1|apply qg1 rfl|apply qcd);(try intro K hk);focus (simp only [go_sem,Nat.reduceEqDiff,↓reduceIte,reduceCtorEq,digC];first|exact rfl|((repeat refine ai ?_);intros;apply hk;clear hk K)))|apply qw8|apply qw1|apply qw6|apply qt1|apply qw5|apply qw2|apply qt2|apply qt3|apply qt4|apply qt5|apply qt6|apply qw3|apply qw4|apply qj1|apply qj2|apply qj3|apply qj4|apply qj5|apply qu1|(refine qj6 ?_ ?_<;>intro hc<;>(try simp only [hc])<;>(try simp only [decide_eq_true_eq,decide_eq_false_iff_not,Bool.not_eq_true',Bool.not_eq_false'] at hc)<;>(try (exfalso;omega))))
 all_goals (try have d1:=digI_t.1 ‹_›)
 all_goals (try have d2:=digI_f.1 ‹_›)
 all_goals first
  | (exfalso;omega)
  | (refine s_again (k+1) ?_ ?_ ?_<;>(first|omega|(dsimp only;omega)|skip)
     · refine ⟨by omega,?_,?_⟩
       · rw [allB_snoc (by omega),hp,okNm_t (x:=(s.getD k 0).toNat) (by omega)];try rfl
       · intro _
         by_cases h0:k=0
         · subst h0;omega
         · exact hp0 (by omega)
     · simp [fits,fitsT,fitsM,upd_def,PV.nmb]
     done)
  | (((first|refine fin_ret ?_|refine fin_end ?_);simp only [go_sem,↓upd_def,↓reduceIte])
     refine K_bool hK ?_
     clear hK
     unfold nameB
     by_cases h0:k=0
     · subst h0
       rw [decide_eq_false (by omega)];rfl
     · rw [allB_f (k:=k) (by omega) (okNm_f (x:=(s.getD k 0).toNat) (by omega)),Bool.and_false])
  | (((first|refine fin_ret ?_|refine fin_end ?_);simp only [go_sem,↓upd_def,↓reduceIte])
     refine K_bool hK ?_
     clear hK
     rw [List.take_of_length_le (by omega)] at hp
     unfold nameB
     rw [hp,Bool.and_true,← Bool.decide_and,decide_eq_decide]
     omega)
  | skip
end Go.Proofs.YtnbjogilidfkdaaGreat

/- Contracts: entities. -/
namespace Go.Proofs.YtnbjogilidfkdaaGreat
attribute [local irreducible] awp arun acalm FinP Fin AX.then AX.inBlock Again aG gsel amix amixN amixC aop aopc aopd cutK
attribute [local go_sem] aBSliceD aSlice aSliceC boundOf aMk aCall aCallC aLenL aLen aPick_t aPick_f aNil aAlloc aBox aBuild bldPV aBSlice bsPV aApp newsOf destOf drp aConvX aConv aConvInt aLoad cellsAt aStore cellsPV setAt aFld aField aIdx aIndex aUn aBin' aBin aMax aExtract pvOf PV.isCell nmbL PV.nmb List.map_cons List.map_nil List.all_cons List.all_nil Bool.and_true Bool.true_and if_true if_false List.getD_cons_zero List.getD_cons_succ List.getD_nil Option.isSome_some true_and and_true and_self eq_self true_or or_true List.drop_zero List.drop_succ_cons List.drop_nil List.take_zero List.take_succ_cons List.take_nil List.length_cons List.length_nil List.length_map Option.getD_some Option.getD_none List.nil_append List.cons_append List.append_nil Option.some.injEq exists_eq_left' List.getElem?_cons_zero List.getElem?_cons_succ Int.toNat_natCast Int.natCast_inj toNat_succ Nat.zero_add res res1 resC owns owns1 ownsC List.flatMap_cons List.flatMap_nil List.flatten_cons List.flatten_nil List.mem_cons List.not_mem_nil or_false false_or forall_eq forall_eq_or_imp isFro frz frz1 pureC tabA isBld List.cons.injEq PV.seq.injEq PV.int.injEq PV.str.injEq PV.bool.injEq PV.agg.injEq inR tab Γof aRes packR Option.map_some Option.map_none rel Prod.exists exists_and_left exists_eq_left and_assoc beq_self_eq_true Bool.not_true Bool.not_false decide_true decide_false List.set_cons_zero List.set_cons_succ rst_nil rst_cons
attribute [local go_sem ↓] evT upd_def aop aopc aopd
set_option maxRecDepth 100000
set_option linter.unusedVariables false
set_option linter.unusedSimpArgs false
open Go.RowKit
@[go_sem] def preC:PC:=rel (α:=Bs×Bs) (fun x=>[.str x.1,.str x.2]) (fun x=>x.1.length≤9223372036854775807∧x.2.length≤9223372036854775807) (fun x=> .bool (x.2.isPrefixOf x.1))
theorem spre_any:PureOk Tryz.prog 102 preC:=by
 refine pure_rel 2 tab_nil mixed [.tmp 4] Tryz.func102 rfl rfl (by kernel_rfl) (by kernel_rfl) (fun _=>rfl) (by kernel_rfl) ?_
 rintro ⟨s,p⟩ K ⟨h1,h2⟩ hK
 dsimp only at *
 unfold entry
 repeat' (first|((first|apply qa1|apply qh1|apply qg1 rfl);(try intro K hk);focus (simp only [go_sem,Nat.reduceEqDiff,↓reduceIte,reduceCtorEq];first|exact rfl|((repeat refine ai ?_);intros;apply hk;clear hk K)))|apply qw8|apply qw1|apply qw6|apply qt1|apply qw4|apply qj1|apply qj4|apply qu1|(refine qj6 ?_ ?_<;>intro hc<;>(try simp only [hc])<;>(try simp only [decide_eq_true_eq,decide_eq_false_iff_not] at hc)<;>(try (exfalso;omega))))
 all_goals
  ((first|refine fin_ret ?_|refine fin_end ?_);simp only [go_sem,↓upd_def,↓reduceIte])
  refine K_bool hK ?_
  rw [prefix_iff]
  first
   | exact decide_eq_false (by rintro ⟨a,b⟩;omega)
   | (congr 1;simp only [eq_iff_iff];constructor
      · rintro ⟨_,h⟩;exact h
      · intro h;exact ⟨by omega,h⟩)
theorem pre_any:PureOk Tryz.prog 65 preC:=by
 refine pure_rel 2 (tab_cons spre_any tab_nil) mixed [.tmp 4] Tryz.func65 rfl rfl (by kernel_rfl) (by kernel_rfl) (fun _=>rfl) (by kernel_rfl) ?_
 rintro ⟨s,p⟩ K ⟨h1,h2⟩ hK
 dsimp only at *
 unfold entry
 repeat' (first|((first|apply qa1);(try intro K hk);focus (simp only [go_sem,Nat.reduceEqDiff,↓reduceIte,reduceCtorEq];first|exact rfl|((repeat refine ai ?_);intros;apply hk;clear hk K)))|apply qw8|apply qw1|apply qw6|apply qt1|apply qw4)
 ((first|refine fin_ret ?_|refine fin_end ?_);simp only [go_sem,↓upd_def,↓reduceIte])
 exact hK
set_option maxHeartbeats 4000000 in
theorem esc_i:PureOk Tryz.prog 60 (tC fun s=> .str (escT s)):=by
 refine pure_relA 1 (tabA_cons wstr_ok (tabA_cons wbyte_ok (tabA_cons bstr_ok (tabA_nil (Γof_ok (tab_cons ent_i tab_nil)))))) (tab_cons ent_i tab_nil) mixed [.tmp 2] Tryz.func60 rfl rfl (by kernel_rfl) (by kernel_rfl) (fun _=>rfl) (by kernel_rfl) ?_
 rintro s K hl hK
 unfold entry
 repeat' (first|((first|apply qa1);(try intro K hk);focus (simp only [go_sem,↓reduceIte];first|exact rfl|((repeat refine ai ?_);intros;apply hk;clear hk K)))|apply qw8|apply qw1|apply qw6|apply qt1|apply qw5)
 refine s_loop (ι:=Nat) (fun k=>[(0,.str s),(3,.ref 0 0),(4,.int .i64 k)]) (fun k=>[(0,.gen bld [.str (escT (s.take k))])]) 1 (fun k=>k≤s.length) (fun k=>s.length - k) 0 (by omega) (by omega) ?_ ?_
 · simp [fits,fitsT,fitsM,upd_def,PV.nmb,MB.nmb,escT]
 intro k hk
 have hbl:=byte_lt s k
 have hL1:=escT_len (s.take k)
 rw [List.length_take_of_le hk] at hL1
 have hL2:=entOf_len (s.getD k 0)
 simp only [mkS,mkT,mkM]
 repeat' (first|((first|apply qa1|apply qcd);(try intro K hk);focus (simp only [go_sem,Nat.reduceEqDiff,Nat.reduceLeDiff,↓reduceIte,reduceCtorEq];first|exact rfl|((repeat refine ai ?_);intros;apply hk;clear hk K)))|apply qw8|apply qw1|apply qw6|apply qt1|apply qw5|apply qw2|apply qt2|apply qt4|apply qt5|apply qw3|apply qw4|apply qj1|apply qj4|(refine qj6 ?_ ?_<;>intro hc<;>(try simp only [hc])<;>(try simp only [decide_eq_true_eq,decide_eq_false_iff_not,Bool.not_eq_true',Bool.not_eq_false'] at hc)<;>(try (exfalso;omega))))
 all_goals first
  | (refine s_again (k+1) ?_ ?_ ?_<;>(first|omega|(dsimp only;omega)|skip)
     have hS:escT (s.take (k+1))=escT (s.take k)++ent1 (s.getD k 0):=flatMap_snoc (by omega)
     first
      | (rw [show ent1 (s.getD k 0)=entOf (s.getD k 0) by unfold ent1;clear hK;simp_all;done] at hS
         simp [fits,fitsT,fitsM,upd_def,PV.nmb,MB.nmb,hS]
         done)
      | (rw [show ent1 (s.getD k 0)=[s.getD k 0] by unfold ent1;clear hK;simp_all;done] at hS
         simp [fits,fitsT,fitsM,upd_def,PV.nmb,MB.nmb,hS]
         done))
  | (((first|refine fin_ret ?_|refine fin_end ?_);simp only [go_sem,↓upd_def,↓reduceIte])
     rw [List.take_of_length_le (by omega)]
     exact hK)
set_option maxHeartbeats 4000000 in
theorem esc_s:PureOk Tryz.prog 108 (tC fun s=> .str (escT s)):=by
 refine pure_rel 1 (tab_cons ent_s tab_nil) mixed [.tmp 2] Tryz.func108 rfl rfl (by kernel_rfl) (by kernel_rfl) (fun _=>rfl) (by kernel_rfl) ?_
 rintro s K hl hK
 unfold entry
 repeat' (first|((first|apply qa1);(try intro K hk);focus (simp only [go_sem];first|exact rfl|((repeat refine ai ?_);intros;apply hk;clear hk K)))|apply qw8|apply qw1|apply qw6|apply qt1|apply qw5)
 refine s_loop (ι:=Nat) (fun k=>[(0,.str s),(3,.str (escT (s.take k))),(4,.int .i64 k)]) (fun _=>[]) 0 (fun k=>k≤s.length) (fun k=>s.length - k) 0 (by omega) (by omega) ?_ ?_
 · simp [fits,fitsT,fitsM,upd_def,PV.nmb,escT]
 intro k hk
 have hbl:=byte_lt s k
 have hL1:=escT_len (s.take k)
 rw [List.length_take_of_le hk] at hL1
 have hL2:=(ent1_len (s.getD k 0)).2
 simp only [mkS,mkT,mkM]
 repeat' (first|((first|apply qa1|apply qcd);(try intro K hk);focus (simp only [go_sem,Nat.reduceEqDiff,↓reduceIte,reduceCtorEq];first|exact rfl|((repeat refine ai ?_);intros;apply hk;clear hk K)))|apply qw8|apply qw1|apply qw6|apply qt1|apply qw5|apply qw2|apply qt2|apply qt4|apply qt5|apply qw3|apply qw4|apply qj1|apply qj4|(refine qj6 ?_ ?_<;>intro hc<;>(try simp only [hc])<;>(try simp only [decide_eq_true_eq,decide_eq_false_iff_not] at hc)<;>(try (exfalso;omega))))
 all_goals first
  | (refine s_again (k+1) ?_ ?_ ?_<;>(first|omega|(dsimp only;omega)|skip)
     have hS:escT (s.take (k+1))=escT (s.take k)++ent1 (s.getD k 0):=flatMap_snoc (by omega)
     simp [fits,fitsT,fitsM,upd_def,PV.nmb,hS]
     done)
  | (((first|refine fin_ret ?_|refine fin_end ?_);simp only [go_sem,↓upd_def,↓reduceIte])
     rw [List.take_of_length_le (by omega)]
     exact hK)
set_option maxHeartbeats 4000000 in
theorem at_i:PureOk Tryz.prog 80 (tC fun s=> .tup [.int .u8 ((entAt s).1.toNat:Int),.int .i64 ((entAt s).2:Int)]):=by
 refine pure_rel 1 (tab_cons ent_i (tab_cons pre_any tab_nil)) mixed [.tmp 2,.tmp 3] Tryz.func80 rfl rfl (by kernel_rfl) (by kernel_rfl) (fun _=>rfl) (by kernel_rfl) ?_
 rintro s K hl hK
 unfold entry
 repeat' (first|((first|apply qa1);(try intro K hk);focus (simp only [go_sem,Nat.reduceAdd,Nat.reduceLT,↓reduceIte];first|exact rfl|((repeat refine ai ?_);intros;apply hk;clear hk K)))|apply qw8|apply qw1|apply qw6|apply qt1|apply qw5)
 refine s_loop (ι:=Nat) (fun k=>[(0,.str s),(8,.own 0),(9,.int .i64 5),(10,.int .i64 k)]) (fun k=>[(0,.fro (specials.map bc))]) 1 (fun k=>k≤5∧noEnt s k) (fun k=>5 - k) 0 (by omega) ⟨by omega,by simp [noEnt]⟩ ?_ ?_
 · simp [fits,fitsT,fitsM,upd_def,PV.nmb,MB.nmb,specials,bc]
 rintro k ⟨hk,hp⟩
 have he38:entOf (ofI 38)=[38,97,109,112,59]:=by decide
 have he60:entOf (ofI 60)=[38,108,116,59]:=by decide
 have he62:entOf (ofI 62)=[38,103,116,59]:=by decide
 have he34:entOf (ofI 34)=[38,113,117,111,116,59]:=by decide
 have he39:entOf (ofI 39)=[38,35,51,57,59]:=by decide
 have hs5:specials.map bc=[[.int .u8 38],[.int .u8 60],[.int .u8 62],[.int .u8 34],[.int .u8 39]]:=rfl
 simp only [mkS,mkT,mkM]
 obtain rfl|rfl|rfl|rfl|rfl|rfl:k=0∨k=1∨k=2∨k=3∨k=4∨k=5:=by omega
 all_goals repeat' (first|((first|apply qa1|apply qcd);(try intro K hk);focus (simp only [go_sem,Nat.reduceEqDiff,Nat.reduceAdd,Nat.reduceLeDiff,↓reduceIte,reduceCtorEq,hs5,he38,he60,he62,he34,he39];first|exact rfl|((repeat refine ai ?_);intros;apply hk;clear hk K)))|apply qw8|apply qw1|apply qw6|apply qt1|apply qw5|apply qw2|apply qt2|apply qt3|apply qt4|apply qt5|apply qt6|apply qw3|apply qw4|apply qj1|apply qj4|(refine qj6 ?_ ?_<;>intro hc<;>(try simp only [hc])<;>(try simp only [decide_eq_true_eq,decide_eq_false_iff_not,Bool.not_eq_true',Bool.not_eq_false',Bool.not_eq_true,reduceCtorEq] at hc)<;>(try (exfalso;omega))))
 all_goals unfold noEnt at hp
 all_goals first
  | (((first|refine fin_ret ?_|refine fin_end ?_);simp only [go_sem,↓upd_def,Nat.reduceEqDiff,↓reduceIte])
     refine K_eq hK ?_
     clear hK
     simp [entAt, *]
     done)
  | (refine s_again 1 ⟨by omega,?_⟩ (by first|omega|(dsimp only;omega)) ?_
     · unfold noEnt
       refine ⟨fun _=>?_,fun _=>?_,fun _=>?_,fun _=>?_,fun _=>?_⟩<;>first|(exfalso;omega)|assumption|exact hp.1 (by omega)|exact hp.2.1 (by omega)|exact hp.2.2.1 (by omega)|exact hp.2.2.2.1 (by omega)
     · simp [fits,fitsT,fitsM,upd_def,PV.nmb,MB.nmb,hs5]
     done)
  | (refine s_again 2 ⟨by omega,?_⟩ (by first|omega|(dsimp only;omega)) ?_
     · unfold noEnt
       refine ⟨fun _=>?_,fun _=>?_,fun _=>?_,fun _=>?_,fun _=>?_⟩<;>first|(exfalso;omega)|assumption|exact hp.1 (by omega)|exact hp.2.1 (by omega)|exact hp.2.2.1 (by omega)|exact hp.2.2.2.1 (by omega)
     · simp [fits,fitsT,fitsM,upd_def,PV.nmb,MB.nmb,hs5]
     done)
  | (refine s_again 3 ⟨by omega,?_⟩ (by first|omega|(dsimp only;omega)) ?_
     · unfold noEnt
       refine ⟨fun _=>?_,fun _=>?_,fun _=>?_,fun _=>?_,fun _=>?_⟩<;>first|(exfalso;omega)|assumption|exact hp.1 (by omega)|exact hp.2.1 (by omega)|exact hp.2.2.1 (by omega)|exact hp.2.2.2.1 (by omega)
     · simp [fits,fitsT,fitsM,upd_def,PV.nmb,MB.nmb,hs5]
     done)
  | (refine s_again 4 ⟨by omega,?_⟩ (by first|omega|(dsimp only;omega)) ?_
     · unfold noEnt
       refine ⟨fun _=>?_,fun _=>?_,fun _=>?_,fun _=>?_,fun _=>?_⟩<;>first|(exfalso;omega)|assumption|exact hp.1 (by omega)|exact hp.2.1 (by omega)|exact hp.2.2.1 (by omega)|exact hp.2.2.2.1 (by omega)
     · simp [fits,fitsT,fitsM,upd_def,PV.nmb,MB.nmb,hs5]
     done)
  | (refine s_again 5 ⟨by omega,?_⟩ (by first|omega|(dsimp only;omega)) ?_
     · unfold noEnt
       refine ⟨fun _=>?_,fun _=>?_,fun _=>?_,fun _=>?_,fun _=>?_⟩<;>first|(exfalso;omega)|assumption|exact hp.1 (by omega)|exact hp.2.1 (by omega)|exact hp.2.2.1 (by omega)|exact hp.2.2.2.1 (by omega)
     · simp [fits,fitsT,fitsM,upd_def,PV.nmb,MB.nmb,hs5]
     done)
end Go.Proofs.YtnbjogilidfkdaaGreat

/- Contracts: the reader of drawn inputs. -/
namespace Go.Proofs.YtnbjogilidfkdaaGreat
attribute [local irreducible] awp arun acalm FinP Fin AX.then AX.inBlock Again aG gsel amix amixN amixC aop aopc aopd cutK
attribute [local go_sem] aBSliceD aSlice aSliceC boundOf aMk aCall aCallC aLenL aLen aPick_t aPick_f aNil aAlloc aBox aBuild bldPV aBSlice bsPV aApp newsOf destOf drp aConvX aConv aConvInt aLoad cellsAt aStore cellsPV setAt aFld aField aIdx aIndex aUn aBin' aBin aMax aExtract pvOf PV.isCell nmbL PV.nmb List.map_cons List.map_nil List.all_cons List.all_nil Bool.and_true Bool.true_and if_true if_false List.getD_cons_zero List.getD_cons_succ List.getD_nil Option.isSome_some true_and and_true and_self eq_self true_or or_true List.drop_zero List.drop_succ_cons List.drop_nil List.take_zero List.take_succ_cons List.take_nil List.length_cons List.length_nil List.length_map Option.getD_some Option.getD_none List.nil_append List.cons_append List.append_nil Option.some.injEq exists_eq_left' List.getElem?_cons_zero List.getElem?_cons_succ Int.toNat_natCast Int.natCast_inj toNat_succ Nat.zero_add res res1 resC owns owns1 ownsC List.flatMap_cons List.flatMap_nil List.flatten_cons List.flatten_nil List.mem_cons List.not_mem_nil or_false false_or forall_eq forall_eq_or_imp isFro frz frz1 pureC tabA isBld List.cons.injEq PV.seq.injEq PV.int.injEq PV.str.injEq PV.bool.injEq PV.agg.injEq inR tab Γof aRes packR Option.map_some Option.map_none rel Prod.exists exists_and_left exists_eq_left and_assoc beq_self_eq_true Bool.not_true Bool.not_false decide_true decide_false List.set_cons_zero List.set_cons_succ rst_nil rst_cons
attribute [local go_sem ↓] evT upd_def aop aopc aopd
set_option maxRecDepth 100000
set_option linter.unusedVariables false
set_option linter.unusedSimpArgs false
open Go.RowKit
def lv91:Nat→List Nat
 | 0=>[0,1]
 | 1=>[0,1]
 | 2=>[0,1,24]
 | 3=>[4]
 | 4=>[0,1,5]
 | 5=>[0,1,5,36]
 | 6=>[4]
 | 7=>[1,6]
 | 8=>[1,6]
 | 9=>[4]
 | _=>[]
/-- A reader over l, at p. -/
def rdB (l:Bs) (p:Int):MB:= .box [.seq (l.map bc),.int .i64 p]
@[go_sem] theorem rdB_def (l:Bs) (p:Int):rdB l p= .box [.seq (l.map bc),.int .i64 p]:=rfl
theorem bc_get (l:Bs) (k:Nat):(l.map bc)[k]?=(l[k]?).map bc:=by simp
theorem get_getD {l:Bs} {k:Nat} (h:k<l.length):l[k]?=some (l.getD k 0):=by rw [getD_lt h];exact List.getElem?_eq_getElem h
@[go_sem] def pickC0:AC:=locV (α:=(Bs×Int)×Int) (fun x=>[.int .i64 x.2]) (fun x=>rdB x.1.1 x.1.2) (fun x=>x.1.1.length≤2000∧0≤x.1.2∧x.1.2≤1000000∧x.2≤1000) (fun x r b'=>b'=rdB x.1.1 (x.1.2+1)∧ ∃ k:Int,r= .int .i64 k∧0≤k∧(k=0∨k<x.2))
set_option maxHeartbeats 8000000 in
theorem pick_ok0:ACok Tryz.prog 91 pickC0:=by
 refine locV_ok 2 (tabA_nil (Γof_ok tab_nil)) tab_nil mixed [.tmp 4] Tryz.func91 rfl rfl (by kernel_rfl) (by kernel_rfl) (fun _=>rfl) (by kernel_rfl) (fun x=>by simp [nmbL,PV.nmb]) (fun x=>by simp [go_sem,MB.nmb,nmbL,PV.nmb]) ?_
 rintro ⟨⟨l,p⟩,m⟩ K ⟨hl,h0,h1,hm⟩ hK
 dsimp only at *
 obtain ⟨q,rfl⟩:=Int.eq_ofNat_of_zero_le h0
 have hfin: ∀ a:Nat,¬ m<1→K (.int .i64 ((a:Int) % m)) (rdB l ((q:Int)+1)):=fun a hm1=>hK _ _ ⟨rfl,_,rfl,Int.emod_nonneg _ (by omega),.inr (Int.emod_lt_of_pos _ (by omega))⟩
 have hfin0:K (.int .i64 0) (rdB l ((q:Int)+1)):=hK _ _ ⟨rfl,_,rfl,by omega,.inl rfl⟩
 clear hK
 by_cases hl0:l=[]
 · subst hl0
   unfold entry
   simp only [mkM,rdB,List.map_nil] at *
   repeat' (first|((first|apply qwd|apply qa1|apply qa2|apply qh1|apply qg1 rfl|apply qcd);(try intro K hk);focus (simp only [lv91,mkT,go_sem,Nat.reduceEqDiff,Nat.reduceAdd,Nat.reduceLeDiff,↓reduceIte,reduceCtorEq];first|exact rfl|((repeat refine ai ?_);intros;apply hk;clear hk K)))|apply qw1|refine qwc lv91 ?_|apply qt1|apply qt3|apply qw4|apply qj1|apply qj2|apply qj3|apply qu1|(refine qj6 ?_ ?_<;>intro hc<;>(try simp only [hc])<;>(try simp only [decide_eq_true_eq,decide_eq_false_iff_not] at hc)<;>(try (exfalso;omega))))
   all_goals
    ((first|refine fin_V ?_|refine fin_Ve ?_|refine fin_O ?_|refine fin_Oe ?_|refine fin_X ?_|refine fin_Xe ?_|refine fin_B ?_|refine fin_Be ?_);simp only [go_sem,MB.nmb,not_false_eq_true,↓upd_def,↓reduceIte])
    exact hfin0
 have hlp:0<l.length:=List.length_pos_iff.2 hl0
 by_cases hq:q<l.length
 · have hg:=get_getD hq
   have hb:=byte_lt l q
   unfold entry
   simp only [mkM,rdB] at *
   repeat' (first|((first|apply qwd|apply qa1|apply qa2|apply qh1|apply qg1 rfl|apply qcd);(try intro K hk);focus (simp only [lv91,mkT,go_sem,Nat.reduceEqDiff,Nat.reduceAdd,Nat.reduceLeDiff,↓reduceIte,reduceCtorEq,Int.add_sub_cancel,bc_get,hg,bc];first|exact rfl|((repeat refine ai ?_);intros;apply hk;clear hk K)))|apply qw1|refine qwc lv91 ?_|apply qt1|apply qw2|apply qt3|apply qw4|apply qj1|apply qj2|apply qj3|apply qj4|apply qu1|(refine qj6 ?_ ?_<;>intro hc<;>(try simp only [hc])<;>(try simp only [decide_eq_true_eq,decide_eq_false_iff_not] at hc)<;>(try (exfalso;omega))))
   all_goals
    ((first|refine fin_V ?_|refine fin_Ve ?_|refine fin_O ?_|refine fin_Oe ?_|refine fin_X ?_|refine fin_Xe ?_|refine fin_B ?_|refine fin_Be ?_);simp only [go_sem,MB.nmb,not_false_eq_true,↓upd_def,↓reduceIte])
    first|exact hfin0|(refine hfin _ ?_;assumption)
 · have hm1:q % l.length<l.length:=Nat.mod_lt _ hlp
   have hm2:(q * 7+3) % l.length<l.length:=Nat.mod_lt _ hlp
   have e1:((q:Int) % (l.length:Int)).toNat=q % l.length:=by rw [← Int.natCast_emod];rfl
   have e2:(((q:Int) * 7+3) % (l.length:Int)).toNat=(q * 7+3) % l.length:=by
    have:((q:Int) * 7+3)=((q * 7+3:Nat):Int):=by omega
    rw [this,← Int.natCast_emod];rfl
   have g1:=get_getD hm1
   have g2:=get_getD hm2
   have b1:=byte_lt l (q % l.length)
   have b2:=byte_lt l ((q * 7+3) % l.length)
   have d1:0≤(q:Int) / (l.length:Int):=Int.ediv_nonneg (by omega) (by omega)
   have d2:(q:Int) / (l.length:Int)≤q:=Int.ediv_le_self _ (by omega)
   have m1:0≤(q:Int) % (l.length:Int):=Int.emod_nonneg _ (by omega)
   have m2:0≤((q:Int) * 7+3) % (l.length:Int):=Int.emod_nonneg _ (by omega)
   unfold entry
   simp only [mkM,rdB] at *
   repeat' (first|((first|apply qwd|apply qa1|apply qa2|apply qa3|apply qh1|apply qg1 rfl|apply qcd);(try intro K hk);focus (simp only [lv91,mkT,go_sem,Nat.reduceEqDiff,Nat.reduceAdd,Nat.reduceLeDiff,↓reduceIte,reduceCtorEq,Int.add_sub_cancel,bc_get,g1,g2,e1,e2,bc];first|exact rfl|((repeat refine ai ?_);intros;apply hk;clear hk K)))|apply qw1|refine qwc lv91 ?_|apply qt1|apply qw2|apply qw9|apply qt3|apply qw4|apply qj1|apply qj2|apply qj3|apply qj4|apply qu1|(refine qj6 ?_ ?_<;>intro hc<;>(try simp only [hc])<;>(try simp only [decide_eq_true_eq,decide_eq_false_iff_not] at hc)<;>(try (exfalso;omega)))|(refine qw7 ?_ ?_ ?_;(focus (decide +kernel));(focus (decide +kernel))))
   all_goals
    ((first|refine fin_V ?_|refine fin_Ve ?_|refine fin_O ?_|refine fin_Oe ?_|refine fin_X ?_|refine fin_Xe ?_|refine fin_B ?_|refine fin_Be ?_);simp only [go_sem,MB.nmb,not_false_eq_true,↓upd_def,↓reduceIte])
    first|exact hfin0|(refine hfin _ ?_;assumption)
@[go_sem] def pickC:AC:=fun args mem n K=>match args with
 | [.ref i o,.int .i64 m]=>(match mem i with
   | some (.box [.seq es,.int .i64 p])=>o=0∧(∃ l:Bs,es=l.map bc∧l.length≤2000)∧0≤p∧p≤1000000∧m≤1000∧ ∀ k:Int,0≤k→(k=0∨k<m)→K (.int .i64 k) (upd mem i (some (.box [.seq es,.int .i64 (p+1)]))) n
   | _=>False)
 | _=>False
@[go_sem] def frz2 (C:AC):AC:=fun args mem n K=>match args with
 | [a,b]=>C [a,res mem b] (frz mem (owns b)) n K
 | _=>False
theorem frz2_ok {P:Program} {f:FuncId} {C:AC} (h:ACok P f C):ACok P f (frz2 C):=by
 refine ⟨h.fn,fun c mem n args vs K hI hn hr hC=>?_⟩
 unfold frz2 at hC
 split at hC
 · rename_i a b
   obtain ⟨c1,w1,r1,st⟩:=Step.frz (owns b) hI hn
   rw [RepL.cons_iff] at hr
   obtain ⟨v,vs',rfl,ha,hr⟩:=hr
   rw [RepL.cons_iff] at hr
   obtain ⟨v2,vs2,rfl,hb,hr⟩:=hr
   have hb1:=rep_res st.inv (frz_fits mem (owns b)) (Rep.mono _ st.le hb)
   have:=h.run c1 _ n [a,res mem b] (v::v2::vs2) K st.inv st.free (RepL.cons_iff.2 ⟨_,_,rfl,Rep.mono _ st.le ha,RepL.cons_iff.2 ⟨_,_,rfl,hb1,RepL.mono _ st.le hr⟩⟩) hC
   rw [w1] at this
   refine this.mono ?_
   rintro e w' ⟨v',r,c',mem',n',rfl,hw,hK,st',hrep⟩
   exact ⟨v',r,c',mem',n',rfl,hw,hK,st.trans st',hrep⟩
 · exact hC.elim
theorem ACok.mono {P:Program} {f:FuncId} {C C':AC} (h:ACok P f C) (hc: ∀ args mem n K,C' args mem n K→C args mem n K):ACok P f C' :=
 ⟨h.fn,fun c mem n args vs K hI hn hr hC=>h.run c mem n args vs K hI hn hr (hc args mem n K hC)⟩
theorem pick_ok:ACok Tryz.prog 91 pickC:=pick_ok0.mono fun args mem n K h=>by
 unfold pickC at h
 split at h
 · rename_i i o m
   split at h
   · rename_i es p hm
     obtain ⟨rfl,⟨l,rfl,hl⟩,h0,h1,h2,hK⟩:=h
     refine ⟨((l,p),m),i,rfl,⟨hl,h0,h1,h2⟩,hm,?_⟩
     rintro r b' ⟨rfl,k,rfl,k0,k1⟩
     exact hK k k0 k1
   · exact h.elim
 · exact h.elim
theorem exl {α:Type} {p:α→Prop} {a:α}:(∃ x,a=x∧p x)↔p a:=⟨fun ⟨_,rfl,h⟩=>h,fun h=>⟨a,rfl,h⟩⟩
/-- A text of at most so many bytes. -/
def isTxt (B:Nat):List PV→Bool
 | [.str l]=>Nat.ble l.length B
 | _=>false
theorem isTxt_get {B:Nat} {es:List (List PV)} {k:Nat} (h:es.all (isTxt B)=true) (hk:k<es.length): ∃ l:Bs,es[k]?=some [.str l]∧l.length≤B:=by
 rw [List.all_eq_true] at h
 have:=h es[k] (List.getElem_mem hk)
 unfold isTxt at this
 split at this
 · rename_i l hl
   exact ⟨l,by rw [List.getElem?_eq_getElem hk,hl],Nat.le_of_ble_eq_true this⟩
 · cases this
/-- One of some texts is loaded. -/
theorem qload {P:Program} {Γ:Ctr} {ev:Operand→PV} {t:TypeId} {x:Operand} {mem:Mem} {nx i k s:Nat} {e:TypeId} {es:List (List PV)} {K:PV→Mem→Nat→Prop} (B:Nat) (hx:ev x= .rref i k s 0) (hm:mem i=some (.row e s es)) (ha:aggOf P t=some none) (hk:k<es.length) (hB:es.all (isTxt B)=true)
 (h: ∀ l:Bs,l.length≤B→K (.str l) mem nx):aop P Γ ev (.load t x) mem nx K:=by
 obtain ⟨l,h1,h2⟩:=isTxt_get hB hk
 simp only [aop]
 rw [hx]
 unfold aLoad
 rw [ha]
 simp only [cellsAt,hm,if_true,h1,Option.map_some,List.drop_zero]
 exact h l h2
@[go_sem] def oddC0:AC:=locV (α:=(Bs×Int)×Int) (fun x=>[.int .i64 x.2]) (fun x=>rdB x.1.1 x.1.2) (fun x=>x.1.1.length≤2000∧0≤x.1.2∧x.1.2≤1000000∧0≤x.2∧x.2≤1000) (fun x r b'=> ∃ b:Bool,r= .bool b∧b'=rdB x.1.1 (if 0<x.2 then x.1.2+1 else x.1.2)∧(x.2=0→b=false))
set_option maxHeartbeats 8000000 in
theorem odd_ok0:ACok Tryz.prog 90 oddC0:=by
 refine locV_ok 2 (tabA_cons pick_ok (tabA_nil (Γof_ok tab_nil))) tab_nil mixed [.tmp 4] Tryz.func90 rfl rfl (by kernel_rfl) (by kernel_rfl) (fun _=>rfl) (by kernel_rfl) (fun x=>by simp [nmbL,PV.nmb]) (fun x=>by simp [go_sem,MB.nmb,nmbL,PV.nmb]) ?_
 rintro ⟨⟨l,p⟩,m⟩ K ⟨hl,h0,h1,h2,hm⟩ hK
 dsimp only at *
 unfold entry
 simp only [mkM,rdB] at *
 repeat' (first|((first|apply qa1|apply qh1|apply qg1 rfl);(try intro K hk);focus (simp only [go_sem,Nat.reduceEqDiff,↓reduceIte,reduceCtorEq,exl];first|exact rfl|((repeat refine ai ?_);intros;apply hk;clear hk K)))|apply qw8|apply qw1|apply qw6|apply qt1|apply qw4|apply qj1|apply qj4|apply qu1|(refine qj6 ?_ ?_<;>intro hc<;>(try simp only [hc])<;>(try simp only [decide_eq_true_eq,decide_eq_false_iff_not] at hc)<;>(try (exfalso;omega))))
 · ((first|refine fin_V ?_|refine fin_Ve ?_|refine fin_O ?_|refine fin_Oe ?_|refine fin_X ?_|refine fin_Xe ?_|refine fin_B ?_|refine fin_Be ?_);simp only [go_sem,MB.nmb,not_false_eq_true,↓upd_def,↓reduceIte])
   refine hK _ _ ⟨_,rfl,?_,?_⟩
   · rw [if_pos hc]
   · intro h;omega
 · ((first|refine fin_V ?_|refine fin_Ve ?_|refine fin_O ?_|refine fin_Oe ?_|refine fin_X ?_|refine fin_Xe ?_|refine fin_B ?_|refine fin_Be ?_);simp only [go_sem,MB.nmb,not_false_eq_true,↓upd_def,↓reduceIte])
   refine hK _ _ ⟨_,rfl,?_,fun _=>rfl⟩
   rw [if_neg hc]
@[go_sem] def oddC:AC:=fun args mem n K=>match args with
 | [.ref i o,.int .i64 m]=>(match mem i with
   | some (.box [.seq es,.int .i64 p])=>o=0∧(∃ l:Bs,es=l.map bc∧l.length≤2000)∧0≤p∧p≤1000000∧0≤m∧m≤1000∧ ∀ (b:Bool) (p':Int),p≤p'→p'≤p+1→(m=0→b=false)→K (.bool b) (upd mem i (some (.box [.seq es,.int .i64 p']))) n
   | _=>False)
 | _=>False
theorem odd_ok:ACok Tryz.prog 90 oddC:=odd_ok0.mono fun args mem n K h=>by
 unfold oddC at h
 split at h
 · rename_i i o m
   split at h
   · rename_i es p hm
     obtain ⟨rfl,⟨l,rfl,hl⟩,h0,h1,h2,h3,hK⟩:=h
     refine ⟨((l,p),m),i,rfl,⟨hl,h0,h1,h2,h3⟩,hm,?_⟩
     rintro r b' ⟨b,rfl,rfl,hb⟩
     refine hK b _ ?_ ?_ hb<;>dsimp only<;>split<;>omega
   · exact h.elim
 · exact h.elim
@[go_sem] def openC:AC:=fun args mem n K=>match args with
 | [.seq es]=>(∃ l:Bs,es=l.map bc∧l.length≤1048576)∧ ∀ l':Bs,l'.length≤2000→K (.ref n 0) (upd mem n (some (.box [.seq (l'.map bc),.int .i64 0]))) (n+1)
 | _=>False
theorem open_ok:ACok Tryz.prog 49 openC:=by
 refine ac_body 1 (tabA_nil (Γof_ok tab_nil)) tab_nil mixed [.tmp 2] Tryz.func49 rfl rfl (by kernel_rfl) (by kernel_rfl) ?_ (by kernel_rfl) ?_
 · intro args mem n K h
   unfold openC at h
   split at h
   · rfl
   · exact h.elim
 intro args mem n K h
 unfold openC at h
 split at h
 · rename_i es
   obtain ⟨⟨l,rfl,hl⟩,hK⟩:=h
   have hba:=bc_all l
   unfold entry
   repeat' (first|((first|apply qa1|apply qcd);(try intro K hk);focus (simp only [go_sem,Nat.reduceAdd,Nat.reduceLT,Int.reduceToNat,↓reduceIte,reduceCtorEq];first|exact rfl|((repeat refine ai ?_);intros;apply hk;clear hk K)))|apply qw8|apply qw1|apply qw6|apply qt1|apply qw2|apply qw4|apply qj1|apply qj4|(refine qj6 ?_ ?_<;>intro hc<;>(try simp only [hc])<;>(try simp only [decide_eq_true_eq,decide_eq_false_iff_not] at hc)<;>(try (exfalso;omega))))
   · refine fin_retA ?_
     simp only [go_sem,↓upd_def,↓reduceIte]
     have:=hK (l.take 2000) (by simp;omega)
     rw [List.map_take] at this
     exact this
   · refine fin_retA ?_
     simp only [go_sem,↓upd_def,↓reduceIte]
     exact hK l (by omega)
 · exact h.elim
/-- A reader, read on. -/
@[go_sem] def strDC (B:Nat) (w:Int) (rest:List PV→Prop):AC:=fun args mem n K=>match args with
 | .ref i o::ys=>(match mem i with
   | some (.box [.seq es,.int .i64 p])=>o=0∧rest ys∧(∃ l:Bs,es=l.map bc∧l.length≤2000)∧0≤p∧p+w≤1000000∧ ∀ (s:Bs) (p':Int),s.length≤B→p≤p'→p'≤p+w→K (.str s) (upd mem i (some (.box [.seq es,.int .i64 p']))) n
   | _=>False)
 | _=>False
@[go_sem] def strD0 (B:Nat) (w:Int):AC:=locV (α:=Bs×Int) (fun _=>[]) (fun x=>rdB x.1 x.2) (fun x=>x.1.length≤2000∧0≤x.2∧x.2+w≤1000000) (fun x r b'=> ∃ (s:Bs) (p':Int),r= .str s∧b'=rdB x.1 p'∧s.length≤B∧x.2≤p'∧p'≤x.2+w)
theorem strD_of {f:FuncId} {B:Nat} {w:Int} (h:ACok Tryz.prog f (strD0 B w)):ACok Tryz.prog f (strDC B w (fun ys=>ys=[])):=h.mono fun args mem n K h=>by
 unfold strDC at h
 split at h
 · rename_i i o ys
   split at h
   · rename_i es p hm
     obtain ⟨rfl,rfl,⟨l,rfl,hl⟩,h0,h1,hK⟩:=h
     refine ⟨(l,p),i,rfl,⟨hl,h0,h1⟩,hm,?_⟩
     rintro r b' ⟨s,p',rfl,rfl,h1,h2,h3⟩
     exact hK s p' h1 h2 h3
   · exact h.elim
 · exact h.elim
theorem addr_ok0:ACok Tryz.prog 123 (strD0 24 1):=by
 refine locV_ok 1 (tabA_cons pick_ok (tabA_nil (Γof_ok tab_nil))) tab_nil mixed [.tmp 2] Tryz.func123 rfl rfl (by kernel_rfl) (by kernel_rfl) (fun _=>rfl) (by kernel_rfl) (fun x=>by simp [nmbL]) (fun x=>by simp [go_sem,MB.nmb,nmbL,PV.nmb]) ?_
 rintro ⟨l,p⟩ K ⟨hl,h0,h1⟩ hK
 dsimp only at *
 unfold entry
 simp only [mkM,rdB] at *
 repeat' (first|((first|apply qa1);(try intro K hk);focus (simp only [go_sem,Nat.reduceEqDiff,Nat.reduceAdd,↓reduceIte,reduceCtorEq,exl];first|exact rfl|((repeat refine ai ?_);intros;apply hk;clear hk K)))|apply qw8|apply qw1|apply qw6|apply qt1)
 (refine qa1 fun K hk=>?_;apply qload 24;(focus (simp only [go_sem,↓upd_def,↓evT,↓reduceIte];exact rfl));(focus (simp only [go_sem,↓upd_def,↓reduceIte,reduceCtorEq];exact rfl));(focus (simp only [go_sem]));(focus (simp only [List.length_cons,List.length_nil];omega));(focus kernel_rfl);intro tx htx;apply hk;clear hk K)
 repeat' (first|((first|apply qa1);(try intro K hk);focus (simp only [go_sem,↓reduceIte];first|exact rfl|((repeat refine ai ?_);intros;apply hk;clear hk K)))|apply qw8|apply qt1|apply qw4)
 ((first|refine fin_V ?_|refine fin_Ve ?_|refine fin_O ?_|refine fin_Oe ?_|refine fin_X ?_|refine fin_Xe ?_|refine fin_B ?_|refine fin_Be ?_);simp only [go_sem,MB.nmb,not_false_eq_true,↓upd_def,↓reduceIte])
 exact hK _ _ ⟨_,_,rfl,rfl,htx,by omega,by omega⟩
theorem addr_ok:ACok Tryz.prog 123 (strDC 24 1 (fun ys=>ys=[])):=strD_of addr_ok0
@[go_sem] def nmD0:AC:=locV (α:=(Bs×Int)×Int) (fun x=>[.int .i64 x.2]) (fun x=>rdB x.1.1 x.1.2) (fun x=>x.1.1.length≤2000∧0≤x.1.2∧x.1.2+2≤1000000∧0≤x.2∧x.2≤1000) (fun x r b'=> ∃ (s:Bs) (p':Int),r= .str s∧b'=rdB x.1.1 p'∧s.length≤11∧x.1.2≤p'∧p'≤x.1.2+2)
@[go_sem] def nmDC:AC:=fun args mem n K=>match args with
 | [.ref i o,.int .i64 m]=>(match mem i with
   | some (.box [.seq es,.int .i64 p])=>o=0∧(∃ l:Bs,es=l.map bc∧l.length≤2000)∧0≤p∧p+2≤1000000∧0≤m∧m≤1000∧ ∀ (s:Bs) (p':Int),s.length≤11→p≤p'→p'≤p+2→K (.str s) (upd mem i (some (.box [.seq es,.int .i64 p']))) n
   | _=>False)
 | _=>False
theorem nmD_ok0:ACok Tryz.prog 94 nmD0:=by
 refine locV_ok 2 (tabA_cons pick_ok (tabA_cons odd_ok (tabA_nil (Γof_ok tab_nil)))) tab_nil mixed [.tmp 4] Tryz.func94 rfl rfl (by kernel_rfl) (by kernel_rfl) (fun _=>rfl) (by kernel_rfl) (fun x=>by simp [nmbL,PV.nmb]) (fun x=>by simp [go_sem,MB.nmb,nmbL,PV.nmb]) ?_
 rintro ⟨⟨l,p⟩,m⟩ K ⟨hl,h0,h1,h2,h3⟩ hK
 dsimp only at *
 unfold entry
 simp only [mkM,rdB] at *
 repeat' (first|((first|apply qa1|apply qcd);(try intro K hk);focus (simp only [go_sem,Nat.reduceEqDiff,Nat.reduceAdd,↓reduceIte,reduceCtorEq,exl];first|exact rfl|((repeat refine ai ?_);intros;apply hk;clear hk K)))|apply qw8|apply qw1|apply qw6|apply qt1|apply qw2|apply qj1|apply qj4|(refine qj6 ?_ ?_<;>intro hc<;>(try simp only [hc])<;>(try simp only [decide_eq_true_eq,decide_eq_false_iff_not,Bool.not_eq_true',Bool.not_eq_false',Bool.not_eq_true,reduceCtorEq] at hc)<;>(try (exfalso;omega))))
 all_goals
  (refine qa1 fun K hk=>?_;apply qload 11;(focus (simp only [go_sem,↓upd_def,↓evT,↓reduceIte];exact rfl));(focus (simp only [go_sem,↓upd_def,↓reduceIte,reduceCtorEq];exact rfl));(focus (simp only [go_sem]));(focus (simp only [List.length_cons,List.length_nil];omega));(focus kernel_rfl);intro tx htx;apply hk;clear hk K)
  repeat' (first|((first|apply qa1);(try intro K hk);focus (simp only [go_sem,↓reduceIte];first|exact rfl|((repeat refine ai ?_);intros;apply hk;clear hk K)))|apply qw8|apply qt1|apply qt3|apply qw4)
  ((first|refine fin_V ?_|refine fin_Ve ?_|refine fin_O ?_|refine fin_Oe ?_|refine fin_X ?_|refine fin_Xe ?_|refine fin_B ?_|refine fin_Be ?_);simp only [go_sem,MB.nmb,not_false_eq_true,↓upd_def,↓reduceIte])
  exact hK _ _ ⟨_,_,rfl,rfl,htx,by omega,by omega⟩
theorem nmD_ok:ACok Tryz.prog 94 nmDC:=nmD_ok0.mono fun args mem n K h=>by
 unfold nmDC at h
 split at h
 · rename_i i o m
   split at h
   · rename_i es p hm
     obtain ⟨rfl,⟨l,rfl,hl⟩,h0,h1,h2,h3,hK⟩:=h
     refine ⟨((l,p),m),i,rfl,⟨hl,h0,h1,h2,h3⟩,hm,?_⟩
     rintro r b' ⟨s,p',rfl,rfl,h1,h2,h3⟩
     exact hK s p' h1 h2 h3
   · exact h.elim
 · exact h.elim
end Go.Proofs.YtnbjogilidfkdaaGreat

/- Contracts: entities read back, percent signs, script texts. -/
namespace Go.Proofs.YtnbjogilidfkdaaGreat
attribute [local irreducible] awp arun acalm FinP Fin AX.then AX.inBlock Again aG gsel amix amixN amixC aop aopc aopd cutK
attribute [local go_sem] aBSliceD aSlice aSliceC boundOf aMk aCall aCallC aLenL aLen aPick_t aPick_f aNil aAlloc aBox aBuild bldPV aBSlice bsPV aApp newsOf destOf drp aConvX aConv aConvInt aLoad cellsAt aStore cellsPV setAt aFld aField aIdx aIndex aUn aBin' aBin aMax aExtract pvOf PV.isCell nmbL PV.nmb List.map_cons List.map_nil List.all_cons List.all_nil Bool.and_true Bool.true_and if_true if_false List.getD_cons_zero List.getD_cons_succ List.getD_nil Option.isSome_some true_and and_true and_self eq_self true_or or_true List.drop_zero List.drop_succ_cons List.drop_nil List.take_zero List.take_succ_cons List.take_nil List.length_cons List.length_nil List.length_map Option.getD_some Option.getD_none List.nil_append List.cons_append List.append_nil Option.some.injEq exists_eq_left' List.getElem?_cons_zero List.getElem?_cons_succ Int.toNat_natCast Int.natCast_inj toNat_succ Nat.zero_add res res1 resC owns owns1 ownsC List.flatMap_cons List.flatMap_nil List.flatten_cons List.flatten_nil List.mem_cons List.not_mem_nil or_false false_or forall_eq forall_eq_or_imp isFro frz frz1 pureC tabA isBld List.cons.injEq PV.seq.injEq PV.int.injEq PV.str.injEq PV.bool.injEq PV.agg.injEq inR tab Γof aRes packR Option.map_some Option.map_none rel Prod.exists exists_and_left exists_eq_left and_assoc beq_self_eq_true Bool.not_true Bool.not_false decide_true decide_false List.set_cons_zero List.set_cons_succ rst_nil rst_cons
attribute [local go_sem ↓] evT upd_def aop aopc aopd
set_option maxRecDepth 100000
set_option linter.unusedVariables false
set_option linter.unusedSimpArgs false
open Go.RowKit
theorem unT_drop {s:Bs} {k:Nat} (h:k<s.length):unT (s.drop k)=if (entAt (s.drop k)).2=0 then s.getD k 0::unT (s.drop (k+1)) else (entAt (s.drop k)).1::unT (s.drop (k+(entAt (s.drop k)).2)):=by
 have e:=drop_getD h
 rw [e,unT_cons,← e,List.drop_drop]
theorem unT_end {s:Bs} {k:Nat} (h: ¬ k<s.length):unT (s.drop k)=[]:=by
 rw [List.drop_of_length_le (by omega)];rfl
theorem entAt_drop (s:Bs) (k:Nat):(entAt (s.drop k)).2≤s.length - k∧(entAt (s.drop k)).2≤6:=by
 have:=entAt_len (s.drop k)
 rwa [List.length_drop] at this
set_option maxHeartbeats 4000000 in
theorem un_i:PureOk Tryz.prog 36 (tC fun s=> .str (unT s)):=by
 refine pure_relA 1 (tabA_cons wbyte_ok (tabA_cons bstr_ok (tabA_nil (Γof_ok (tab_cons at_i tab_nil))))) (tab_cons at_i tab_nil) mixed [.tmp 2] Tryz.func36 rfl rfl (by kernel_rfl) (by kernel_rfl) (fun _=>rfl) (by kernel_rfl) ?_
 rintro s K hl hK
 unfold entry
 repeat' (first|((first|apply qa1);(try intro K hk);focus (simp only [go_sem,↓reduceIte];first|exact rfl|((repeat refine ai ?_);intros;apply hk;clear hk K)))|apply qw8|apply qw1|apply qw6|apply qt1|apply qw5)
 refine s_loop (ι:=Nat×Bs) (fun i=>[(0,.str s),(3,.ref 0 0),(4,.int .i64 i.1)]) (fun i=>[(0,.gen bld [.str i.2])]) 1 (fun i=>i.1≤s.length∧i.2.length≤i.1∧unT s=i.2++unT (s.drop i.1)) (fun i=>s.length - i.1) (0,[]) (by omega) ⟨by simp,by simp,by simp⟩ ?_ ?_
 · simp [fits,fitsT,fitsM,upd_def,PV.nmb,MB.nmb]
 rintro ⟨k,out⟩ ⟨hk,ho,hu⟩
 dsimp only at *
 have hbl:=byte_lt s k
 have hel:=entAt_drop s k
 have hel1:=byte_lt' (entAt (s.drop k)).1
 simp only [mkS,mkT,mkM]
 repeat' (first|((first|apply qa1|apply qcd);(try intro K hk);focus (simp only [go_sem,Nat.reduceEqDiff,Nat.reduceLeDiff,↓reduceIte,reduceCtorEq,List.length_drop,List.take_length];first|exact rfl|((repeat refine ai ?_);intros;apply hk;clear hk K)))|apply qw8|apply qw1|apply qw6|apply qt1|apply qw5|apply qw2|apply qt2|apply qt4|apply qt5|apply qw3|apply qw4|apply qj1|apply qj4|(refine qj6 ?_ ?_<;>intro hc<;>(try simp only [hc])<;>(try simp only [decide_eq_true_eq,decide_eq_false_iff_not] at hc)<;>(try (exfalso;omega))))
 · refine s_again ((k+(entAt (s.drop k)).2,out++[(entAt (s.drop k)).1])) ?_ ?_ ?_<;>(first|omega|(dsimp only;omega)|skip)
   · exact ⟨by dsimp only;omega,by simp;omega,by rw [hu,unT_drop (by omega),if_neg (by omega)];simp⟩
   · simp [fits,fitsT,fitsM,upd_def,PV.nmb,MB.nmb]
 · refine s_again ((k+1,out++[s.getD k 0])) ?_ ?_ ?_<;>(first|omega|(dsimp only;omega)|skip)
   · exact ⟨by dsimp only;omega,by simp;omega,by rw [hu,unT_drop (by omega),if_pos (by omega)];simp⟩
   · simp [fits,fitsT,fitsM,upd_def,PV.nmb,MB.nmb]
 · ((first|refine fin_ret ?_|refine fin_end ?_);simp only [go_sem,↓upd_def,↓reduceIte])
   rw [unT_end (by omega),List.append_nil] at hu
   rw [← hu]
   exact hK
end Go.Proofs.YtnbjogilidfkdaaGreat
