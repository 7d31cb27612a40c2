/- What the program's tables say of its types. -/
import Derived.Test.YtnbjogilidfkdaaGreatQF12
import Derived.Test.YtnbjogilidfkdaaGreatRows

namespace Go.Proofs.YtnbjogilidfkdaaGreat
set_option maxRecDepth 100000
set_option linter.unusedVariables false
set_option linter.unusedSimpArgs false
open Go.RowKit
theorem mixed:Tryz.prog.follows .mixedOrders=true:=by kernel_rfl
@[go_sem] theorem ty_ag3:aggOf Tryz.prog 3=some none:=by kernel_rfl
@[go_sem] theorem ty_ze3:zeroOf Tryz.prog 3=some [.int .i64 0]:=by kernel_rfl
@[go_sem] theorem ty_kd3:kindOf Tryz.prog 3=some (.inl .i64):=by kernel_rfl
@[go_sem] theorem ty_ag4:aggOf Tryz.prog 4=some none:=by kernel_rfl
@[go_sem] theorem ty_ze4:zeroOf Tryz.prog 4=some [.bool false]:=by kernel_rfl
@[go_sem] theorem ty_un4:Tryz.prog.underlying 4=some .bool:=by kernel_rfl
@[go_sem] theorem ty_ag5:aggOf Tryz.prog 5=some none:=by kernel_rfl
@[go_sem] theorem ty_ze5:zeroOf Tryz.prog 5=some [.int .u8 0]:=by kernel_rfl
@[go_sem] theorem ty_kd5:kindOf Tryz.prog 5=some (.inl .u8):=by kernel_rfl
@[go_sem] theorem ty_ag9:aggOf Tryz.prog 9=some none:=by kernel_rfl
@[go_sem] theorem ty_ze9:zeroOf Tryz.prog 9=some [.str []]:=by kernel_rfl
@[go_sem] theorem ty_kd9:kindOf Tryz.prog 9=some (.inr .str):=by kernel_rfl
@[go_sem] theorem ty_un9:Tryz.prog.underlying 9=some .string:=by kernel_rfl
@[go_sem] theorem ty_el22:elOf Tryz.prog 22=some (5,1,1):=by kernel_rfl
@[go_sem] theorem ty_ag22:aggOf Tryz.prog 22=some none:=by kernel_rfl
@[go_sem] theorem ty_kd22:kindOf Tryz.prog 22=some (.inr .bytes):=by kernel_rfl
@[go_sem] theorem ty_el23:elOf Tryz.prog 23=some (79,5,88):=by kernel_rfl
@[go_sem] theorem ty_ag23:aggOf Tryz.prog 23=some none:=by kernel_rfl
@[go_sem] theorem ty_el24:elOf Tryz.prog 24=some (46,4,64):=by kernel_rfl
@[go_sem] theorem ty_ag24:aggOf Tryz.prog 24=some none:=by kernel_rfl
@[go_sem] theorem ty_el29:elOf Tryz.prog 29=some (68,4,64):=by kernel_rfl
@[go_sem] theorem ty_ag29:aggOf Tryz.prog 29=some none:=by kernel_rfl
@[go_sem] theorem ty_el35:elOf Tryz.prog 35=some (75,5,88):=by kernel_rfl
@[go_sem] theorem ty_ag35:aggOf Tryz.prog 35=some none:=by kernel_rfl
@[go_sem] theorem ty_el36:elOf Tryz.prog 36=some (77,4,64):=by kernel_rfl
@[go_sem] theorem ty_ag36:aggOf Tryz.prog 36=some none:=by kernel_rfl
@[go_sem] theorem ty_el44:elOf Tryz.prog 44=some (9,1,16):=by kernel_rfl
@[go_sem] theorem ty_ag44:aggOf Tryz.prog 44=some none:=by kernel_rfl
@[go_sem] theorem ty_ag46:aggOf Tryz.prog 46=some (some 4):=by kernel_rfl
@[go_sem] theorem ty_ze46:zeroOf Tryz.prog 46=some [.str [],.str [],.bool false,.nil]:=by kernel_rfl
@[go_sem] theorem ty_pl46:plOf Tryz.prog 46=some [(0,1),(1,1),(2,1),(3,1)]:=by kernel_rfl
@[go_sem] theorem ty_fl46_0:fldOf Tryz.prog 46 0=some (0,true):=by kernel_rfl
@[go_sem] theorem ty_fl46_1:fldOf Tryz.prog 46 1=some (1,true):=by kernel_rfl
@[go_sem] theorem ty_fl46_2:fldOf Tryz.prog 46 2=some (2,true):=by kernel_rfl
@[go_sem] theorem ty_fl46_3:fldOf Tryz.prog 46 3=some (3,true):=by kernel_rfl
@[go_sem] theorem ty_ag48:aggOf Tryz.prog 48=some (some 4):=by kernel_rfl
@[go_sem] theorem ty_ze48:zeroOf Tryz.prog 48=some [.int .i64 0,.str [],.str [],.bool false]:=by kernel_rfl
@[go_sem] theorem ty_pl48:plOf Tryz.prog 48=some [(0,1),(1,1),(2,1),(3,1)]:=by kernel_rfl
@[go_sem] theorem ty_fl48_0:fldOf Tryz.prog 48 0=some (0,true):=by kernel_rfl
@[go_sem] theorem ty_fl48_1:fldOf Tryz.prog 48 1=some (1,true):=by kernel_rfl
@[go_sem] theorem ty_fl48_2:fldOf Tryz.prog 48 2=some (2,true):=by kernel_rfl
@[go_sem] theorem ty_fl48_3:fldOf Tryz.prog 48 3=some (3,true):=by kernel_rfl
@[go_sem] theorem ty_ek48:eksOf Tryz.prog 48=some [.i,.s,.s,.b]:=by kernel_rfl
@[go_sem] theorem ty_ze54:zeroOf Tryz.prog 54=some [.raw (.pointer none),.nil]:=by kernel_rfl
@[go_sem] theorem ty_bl54:bldT Tryz.prog 54=some 5:=by kernel_rfl
@[go_sem] theorem ty_el66:elOf Tryz.prog 66=some (72,2,32):=by kernel_rfl
@[go_sem] theorem ty_ag66:aggOf Tryz.prog 66=some none:=by kernel_rfl
@[go_sem] theorem ty_ag68:aggOf Tryz.prog 68=some (some 4):=by kernel_rfl
@[go_sem] theorem ty_ze68:zeroOf Tryz.prog 68=some [.int .i64 0,.str [],.str [],.nil]:=by kernel_rfl
@[go_sem] theorem ty_pl68:plOf Tryz.prog 68=some [(0,1),(1,1),(2,1),(3,1)]:=by kernel_rfl
@[go_sem] theorem ty_fl68_0:fldOf Tryz.prog 68 0=some (0,true):=by kernel_rfl
@[go_sem] theorem ty_fl68_1:fldOf Tryz.prog 68 1=some (1,true):=by kernel_rfl
@[go_sem] theorem ty_fl68_2:fldOf Tryz.prog 68 2=some (2,true):=by kernel_rfl
@[go_sem] theorem ty_fl68_3:fldOf Tryz.prog 68 3=some (3,true):=by kernel_rfl
@[go_sem] theorem ty_ag72:aggOf Tryz.prog 72=some (some 2):=by kernel_rfl
@[go_sem] theorem ty_ze72:zeroOf Tryz.prog 72=some [.str [],.str []]:=by kernel_rfl
@[go_sem] theorem ty_pl72:plOf Tryz.prog 72=some [(0,1),(1,1)]:=by kernel_rfl
@[go_sem] theorem ty_fl72_0:fldOf Tryz.prog 72 0=some (0,true):=by kernel_rfl
@[go_sem] theorem ty_fl72_1:fldOf Tryz.prog 72 1=some (1,true):=by kernel_rfl
@[go_sem] theorem ty_ek72:eksOf Tryz.prog 72=some [.s,.s]:=by kernel_rfl
@[go_sem] theorem ty_ag75:aggOf Tryz.prog 75=some (some 5):=by kernel_rfl
@[go_sem] theorem ty_ze75:zeroOf Tryz.prog 75=some [.int .i64 0,.str [],.str [],.nil,.nil]:=by kernel_rfl
@[go_sem] theorem ty_pl75:plOf Tryz.prog 75=some [(0,1),(1,1),(2,1),(3,1),(4,1)]:=by kernel_rfl
@[go_sem] theorem ty_fl75_0:fldOf Tryz.prog 75 0=some (0,true):=by kernel_rfl
@[go_sem] theorem ty_fl75_1:fldOf Tryz.prog 75 1=some (1,true):=by kernel_rfl
@[go_sem] theorem ty_fl75_2:fldOf Tryz.prog 75 2=some (2,true):=by kernel_rfl
@[go_sem] theorem ty_fl75_3:fldOf Tryz.prog 75 3=some (3,true):=by kernel_rfl
@[go_sem] theorem ty_fl75_4:fldOf Tryz.prog 75 4=some (4,true):=by kernel_rfl
@[go_sem] theorem ty_ag77:aggOf Tryz.prog 77=some (some 4):=by kernel_rfl
@[go_sem] theorem ty_ze77:zeroOf Tryz.prog 77=some [.str [],.str [],.bool false,.nil]:=by kernel_rfl
@[go_sem] theorem ty_pl77:plOf Tryz.prog 77=some [(0,1),(1,1),(2,1),(3,1)]:=by kernel_rfl
@[go_sem] theorem ty_fl77_0:fldOf Tryz.prog 77 0=some (0,true):=by kernel_rfl
@[go_sem] theorem ty_fl77_1:fldOf Tryz.prog 77 1=some (1,true):=by kernel_rfl
@[go_sem] theorem ty_fl77_2:fldOf Tryz.prog 77 2=some (2,true):=by kernel_rfl
@[go_sem] theorem ty_fl77_3:fldOf Tryz.prog 77 3=some (3,true):=by kernel_rfl
@[go_sem] theorem ty_ag79:aggOf Tryz.prog 79=some (some 5):=by kernel_rfl
@[go_sem] theorem ty_ze79:zeroOf Tryz.prog 79=some [.int .i64 0,.str [],.str [],.nil,.nil]:=by kernel_rfl
@[go_sem] theorem ty_pl79:plOf Tryz.prog 79=some [(0,1),(1,1),(2,1),(3,1),(4,1)]:=by kernel_rfl
@[go_sem] theorem ty_fl79_0:fldOf Tryz.prog 79 0=some (0,true):=by kernel_rfl
@[go_sem] theorem ty_fl79_1:fldOf Tryz.prog 79 1=some (1,true):=by kernel_rfl
@[go_sem] theorem ty_fl79_2:fldOf Tryz.prog 79 2=some (2,true):=by kernel_rfl
@[go_sem] theorem ty_fl79_3:fldOf Tryz.prog 79 3=some (3,true):=by kernel_rfl
@[go_sem] theorem ty_fl79_4:fldOf Tryz.prog 79 4=some (4,true):=by kernel_rfl
@[go_sem] theorem ty_ag108:aggOf Tryz.prog 108=some (some 2):=by kernel_rfl
@[go_sem] theorem ty_ze108:zeroOf Tryz.prog 108=some [.nil,.int .i64 0]:=by kernel_rfl
@[go_sem] theorem ty_pl108:plOf Tryz.prog 108=some [(0,1),(1,1)]:=by kernel_rfl
@[go_sem] theorem ty_fl108_0:fldOf Tryz.prog 108 0=some (0,true):=by kernel_rfl
@[go_sem] theorem ty_fl108_1:fldOf Tryz.prog 108 1=some (1,true):=by kernel_rfl
end Go.Proofs.YtnbjogilidfkdaaGreat

/- Texts: the program's and the reference's small functions on them. -/
namespace Go.Proofs.YtnbjogilidfkdaaGreat
attribute [local irreducible] awp arun acalm FinP Fin AX.then AX.inBlock Again aG gsel amix amixN amixC aop aopc aopd cutK
attribute [local go_sem] aBSliceD aSlice aSliceC boundOf aMk aCall aCallC aLenL aLen aPick_t aPick_f aNil aAlloc aBox aBuild bldPV aBSlice bsPV aApp newsOf destOf drp aConvX aConv aConvInt aLoad cellsAt aStore cellsPV setAt aFld aField aIdx aIndex aUn aBin' aBin aMax aExtract pvOf PV.isCell nmbL PV.nmb List.map_cons List.map_nil List.all_cons List.all_nil Bool.and_true Bool.true_and if_true if_false List.getD_cons_zero List.getD_cons_succ List.getD_nil Option.isSome_some true_and and_true and_self eq_self true_or or_true List.drop_zero List.drop_succ_cons List.drop_nil List.take_zero List.take_succ_cons List.take_nil List.length_cons List.length_nil List.length_map Option.getD_some Option.getD_none List.nil_append List.cons_append List.append_nil Option.some.injEq exists_eq_left' List.getElem?_cons_zero List.getElem?_cons_succ Int.toNat_natCast Int.natCast_inj toNat_succ Nat.zero_add res res1 resC owns owns1 ownsC List.flatMap_cons List.flatMap_nil List.flatten_cons List.flatten_nil List.mem_cons List.not_mem_nil or_false false_or forall_eq forall_eq_or_imp isFro frz frz1 pureC tabA isBld List.cons.injEq PV.seq.injEq PV.int.injEq PV.str.injEq PV.bool.injEq PV.agg.injEq inR tab Γof aRes packR Option.map_some Option.map_none rel Prod.exists exists_and_left exists_eq_left and_assoc beq_self_eq_true Bool.not_true Bool.not_false decide_true decide_false List.set_cons_zero List.set_cons_succ rst_nil rst_cons
attribute [local go_sem ↓] evT upd_def aop aopc aopd
set_option maxRecDepth 100000
set_option linter.unusedVariables false
set_option linter.unusedSimpArgs false
open Go.RowKit
def allB (p:Nat→Bool) (s:List UInt8):Bool:=s.all fun b=>p b.toNat
theorem allB_snoc {p:Nat→Bool} {s:List UInt8} {k:Nat} (h:k<s.length):allB p (s.take (k+1))=(allB p (s.take k) && p (s.getD k 0).toNat):=by
 unfold allB
 rw [List.take_succ_eq_append_getElem h,List.all_append]
 simp [List.getD_eq_getElem?_getD,List.getElem?_eq_getElem h]
theorem allB_f {p:Nat→Bool} {s:List UInt8} {k:Nat} (h:k<s.length) (hp:p (s.getD k 0).toNat=false):allB p s=false:=by
 unfold allB
 rw [List.all_eq_false]
 refine ⟨s[k],List.getElem_mem h,?_⟩
 simp [List.getD_eq_getElem?_getD,List.getElem?_eq_getElem h] at hp
 simp [hp]
def okByte (x:Nat):Bool:=decide (32≤x) && decide (x≤126)
/-- At most 600 bytes, each in 32..126. -/
def textB (s:List UInt8):Bool:=decide (s.length≤600) && allB okByte s
theorem byte_lt (s:List UInt8) (k:Nat):(s.getD k 0).toNat<256:=(s.getD k 0).toNat_lt
@[go_sem] def strC (f:List UInt8→Bool):PC:=rel (α:=List UInt8) (fun s=>[.str s]) (fun s=>s.length≤9223372036854775807) (fun s=> .bool (f s))
set_option maxHeartbeats 4000000 in
theorem text_i:PureOk Tryz.prog 11 (strC textB):=by
 refine pure_rel 1 tab_nil mixed [.tmp 2] Tryz.func11 rfl rfl (by kernel_rfl) (by kernel_rfl) (fun _=>rfl) (by kernel_rfl) ?_
 rintro s K hl hK
 unfold entry
 repeat' (first|((first|apply qa1|apply qcd);(try intro K hk);focus (simp only [go_sem,↓reduceIte,reduceCtorEq];first|exact rfl|((repeat refine ai ?_);intros;apply hk;clear hk K)))|apply qw8|apply qw1|apply qw6|apply qt1|apply qw5|apply qw2|apply qt3|apply qw4|apply qj1|apply qj4|(refine qj6 ?_ ?_<;>intro hc<;>(try simp only [hc])<;>(try simp only [decide_eq_true_eq,decide_eq_false_iff_not] at hc)<;>(try (exfalso;omega))))
 · ((first|refine fin_ret ?_|refine fin_end ?_);simp only [go_sem,↓upd_def,↓reduceIte])
   exact K_bool hK (by unfold textB;rw [decide_eq_false (by omega)];rfl)
 refine s_loop (ι:=Nat) (fun k=>[(0,.str s),(2,.bool false),(3,.int .i64 k)]) (fun _=>[]) 0 (fun k=>k≤s.length∧allB okByte (s.take k)=true) (fun k=>s.length - k) 0 (by omega) ⟨by omega,by simp [allB]⟩ ?_ ?_
 · simp [fits,fitsT,fitsM,upd_def,PV.nmb]
 rintro k ⟨hk,hp⟩
 have hb:=byte_lt s k
 simp only [mkS,mkT,mkM]
 repeat' (first|((first|apply qa1|apply qh1|apply qg1 rfl|apply qcd);(try intro K hk);focus (simp only [go_sem,Nat.reduceEqDiff,↓reduceIte,reduceCtorEq];first|exact rfl|((repeat refine ai ?_);intros;apply hk;clear hk K)))|apply qw8|apply qw1|apply qw6|apply qt1|apply qw5|apply qw2|apply qt2|apply qt3|apply qt4|apply qt5|apply qt6|apply qw3|apply qw4|apply qj1|apply qj2|apply qj3|apply qj4|apply qu1|(refine qj6 ?_ ?_<;>intro hc<;>(try simp only [hc])<;>(try simp only [decide_eq_true_eq,decide_eq_false_iff_not] at hc)<;>(try (exfalso;omega))))
 · ((first|refine fin_ret ?_|refine fin_end ?_);simp only [go_sem,↓upd_def,↓reduceIte])
   exact K_bool hK (by unfold textB;rw [allB_f (k:=k) (by omega) (by unfold okByte;rw [decide_eq_false (by omega)];rfl),Bool.and_false])
 · ((first|refine fin_ret ?_|refine fin_end ?_);simp only [go_sem,↓upd_def,↓reduceIte])
   exact K_bool hK (by unfold textB;rw [allB_f (k:=k) (by omega) (by unfold okByte;rw [decide_eq_false (p:=_≤126) (by omega),Bool.and_false]),Bool.and_false])
 · refine s_again (k+1) ?_ ?_ ?_<;>(first|omega|(dsimp only;omega)|skip)
   · exact ⟨by omega,by rw [allB_snoc (by omega),hp];unfold okByte;rw [decide_eq_true (by omega),decide_eq_true (by omega)];rfl⟩
   · simp [fits,fitsT,fitsM,upd_def,PV.nmb]
 · ((first|refine fin_ret ?_|refine fin_end ?_);simp only [go_sem,↓upd_def,↓reduceIte])
   rw [List.take_of_length_le (by omega)] at hp
   exact K_bool hK (by unfold textB;rw [hp,decide_eq_true (by omega)];rfl)
set_option maxHeartbeats 4000000 in
theorem text_s:PureOk Tryz.prog 107 (strC textB):=by
 refine pure_rel 1 tab_nil mixed [.tmp 2] Tryz.func107 rfl rfl (by kernel_rfl) (by kernel_rfl) (fun _=>rfl) (by kernel_rfl) ?_
 rintro s K hl hK
 unfold entry
 repeat' (first|((first|apply qa1);(try intro K hk);focus (simp only [go_sem];first|exact rfl|((repeat refine ai ?_);intros;apply hk;clear hk K)))|apply qw8|apply qw1|apply qw6|apply qt1|apply qw5)
 refine s_loop (ι:=Nat) (fun k=>[(0,.str s),(2,.bool false),(3,.int .i64 k)]) (fun _=>[]) 0 (fun k=>k≤s.length∧allB okByte (s.take k)=true) (fun k=>s.length - k) 0 (by omega) ⟨by omega,by simp [allB]⟩ ?_ ?_
 · simp [fits,fitsT,fitsM,upd_def,PV.nmb]
 rintro k ⟨hk,hp⟩
 have hb:=byte_lt s k
 simp only [mkS,mkT,mkM]
 repeat' (first|((first|apply qa1|apply qh1|apply qg1 rfl|apply qcd);(try intro K hk);focus (simp only [go_sem,Nat.reduceEqDiff,↓reduceIte,reduceCtorEq];first|exact rfl|((repeat refine ai ?_);intros;apply hk;clear hk K)))|apply qw8|apply qw1|apply qw6|apply qt1|apply qw5|apply qw2|apply qt2|apply qt3|apply qt4|apply qt5|apply qt6|apply qw3|apply qw4|apply qj1|apply qj2|apply qj3|apply qj4|apply qu1|(refine qj6 ?_ ?_<;>intro hc<;>(try simp only [hc])<;>(try simp only [decide_eq_true_eq,decide_eq_false_iff_not] at hc)<;>(try (exfalso;omega))))
 · ((first|refine fin_ret ?_|refine fin_end ?_);simp only [go_sem,↓upd_def,↓reduceIte])
   exact K_bool hK (by unfold textB;rw [allB_f (k:=k) (by omega) (by unfold okByte;rw [decide_eq_false (by omega)];rfl),Bool.and_false])
 · ((first|refine fin_ret ?_|refine fin_end ?_);simp only [go_sem,↓upd_def,↓reduceIte])
   exact K_bool hK (by unfold textB;rw [allB_f (k:=k) (by omega) (by unfold okByte;rw [decide_eq_false (p:=_≤126) (by omega),Bool.and_false]),Bool.and_false])
 · refine s_again (k+1) ?_ ?_ ?_<;>(first|omega|(dsimp only;omega)|skip)
   · exact ⟨by omega,by rw [allB_snoc (by omega),hp];unfold okByte;rw [decide_eq_true (by omega),decide_eq_true (by omega)];rfl⟩
   · simp [fits,fitsT,fitsM,upd_def,PV.nmb]
 · ((first|refine fin_ret ?_|refine fin_end ?_);simp only [go_sem,↓upd_def,↓reduceIte])
   rw [List.take_of_length_le (by omega)] at hp
   exact K_bool hK (by unfold textB;rw [hp,Bool.and_true];congr 1;simp only [eq_iff_iff];omega)
#print axioms text_s
end Go.Proofs.YtnbjogilidfkdaaGreat

/- Names: the program's and the reference's small functions on them. -/
namespace Go.Proofs.YtnbjogilidfkdaaGreat
attribute [local irreducible] awp arun acalm FinP Fin AX.then AX.inBlock Again aG gsel amix amixN amixC aop aopc aopd cutK
attribute [local go_sem] aBSliceD aSlice aSliceC boundOf aMk aCall aCallC aLenL aLen aPick_t aPick_f aNil aAlloc aBox aBuild bldPV aBSlice bsPV aApp newsOf destOf drp aConvX aConv aConvInt aLoad cellsAt aStore cellsPV setAt aFld aField aIdx aIndex aUn aBin' aBin aMax aExtract pvOf PV.isCell nmbL PV.nmb List.map_cons List.map_nil List.all_cons List.all_nil Bool.and_true Bool.true_and if_true if_false List.getD_cons_zero List.getD_cons_succ List.getD_nil Option.isSome_some true_and and_true and_self eq_self true_or or_true List.drop_zero List.drop_succ_cons List.drop_nil List.take_zero List.take_succ_cons List.take_nil List.length_cons List.length_nil List.length_map Option.getD_some Option.getD_none List.nil_append List.cons_append List.append_nil Option.some.injEq exists_eq_left' List.getElem?_cons_zero List.getElem?_cons_succ Int.toNat_natCast Int.natCast_inj toNat_succ Nat.zero_add res res1 resC owns owns1 ownsC List.flatMap_cons List.flatMap_nil List.flatten_cons List.flatten_nil List.mem_cons List.not_mem_nil or_false false_or forall_eq forall_eq_or_imp isFro frz frz1 pureC tabA isBld List.cons.injEq PV.seq.injEq PV.int.injEq PV.str.injEq PV.bool.injEq PV.agg.injEq inR tab Γof aRes packR Option.map_some Option.map_none rel Prod.exists exists_and_left exists_eq_left and_assoc beq_self_eq_true Bool.not_true Bool.not_false decide_true decide_false List.set_cons_zero List.set_cons_succ rst_nil rst_cons
attribute [local go_sem ↓] evT upd_def aop aopc aopd
set_option maxRecDepth 100000
set_option linter.unusedVariables false
set_option linter.unusedSimpArgs false
open Go.RowKit
def digI (x:Int):Bool:=decide (48≤x∧x≤57)
def digC:PC:=rel (α:=Int) (fun x=>[.int .u8 x]) (fun x=>0≤x∧x<256) (fun x=> .bool (digI x))
theorem digI_t {x:Int}:digI x=true↔48≤x∧x≤57:=by unfold digI;simp
theorem digI_f {x:Int}:digI x=false↔ ¬ (48≤x∧x≤57):=by unfold digI;rw [decide_eq_false_iff_not]
set_option maxHeartbeats 4000000 in
theorem dig_i:PureOk Tryz.prog 78 digC:=by
 refine pure_rel 1 tab_nil mixed [.tmp 2] Tryz.func78 rfl rfl (by kernel_rfl) (by kernel_rfl) (fun _=>rfl) (by kernel_rfl) ?_
 rintro x K ⟨h0,h1⟩ hK
 unfold entry
 repeat' (first|((first|apply qa1|apply qh1|apply qg1 rfl);(try intro K hk);focus (simp only [go_sem,Nat.reduceEqDiff,↓reduceIte,reduceCtorEq];first|exact rfl|((repeat refine ai ?_);intros;apply hk;clear hk K)))|apply qw8|apply qw1|apply qw6|apply qt1|apply qw4|apply qj1|apply qj4|apply qu1|(refine qj6 ?_ ?_<;>intro hc<;>(try simp only [hc])<;>(try simp only [decide_eq_true_eq,decide_eq_false_iff_not] at hc)<;>(try (exfalso;omega))))
 all_goals
  ((first|refine fin_ret ?_|refine fin_end ?_);simp only [go_sem,↓upd_def,↓reduceIte])
  exact K_bool hK (by first|exact digI_t.2 (by omega)|exact digI_f.2 (by omega)|(unfold digI;congr 1;simp only [eq_iff_iff];omega))
set_option maxHeartbeats 4000000 in
theorem dig_s:PureOk Tryz.prog 105 digC:=by
 refine pure_rel 1 tab_nil mixed [.tmp 2] Tryz.func105 rfl rfl (by kernel_rfl) (by kernel_rfl) (fun _=>rfl) (by kernel_rfl) ?_
 rintro x K ⟨h0,h1⟩ hK
 unfold entry
 repeat' (first|((first|apply qa1|apply qh1|apply qg1 rfl);(try intro K hk);focus (simp only [go_sem,Nat.reduceEqDiff,↓reduceIte,reduceCtorEq];first|exact rfl|((repeat refine ai ?_);intros;apply hk;clear hk K)))|apply qw8|apply qw1|apply qw6|apply qt1|apply qw4|apply qj1|apply qj4|apply qu1|(refine qj6 ?_ ?_<;>intro hc<;>(try simp only [hc])<;>(try simp only [decide_eq_true_eq,decide_eq_false_iff_not] at hc)<;>(try (exfalso;omega))))
 all_goals
  ((first|refine fin_ret ?_|refine fin_end ?_);simp only [go_sem,↓upd_def,↓reduceIte])
  exact K_bool hK (by first|exact digI_t.2 (by omega)|exact digI_f.2 (by omega)|(unfold digI;congr 1;simp only [eq_iff_iff];omega))
def okNm (x:Nat):Bool:=decide ((97≤x∧x≤122)∨(48≤x∧x≤57)∨x=45)
/-- 1..10 bytes, the first one a small letter, the others small letters, digits, minus signs. -/
def nameB (s:List UInt8):Bool:=decide (1≤s.length∧s.length≤10∧97≤(s.getD 0 0).toNat∧(s.getD 0 0).toNat≤122) && allB okNm s
theorem okNm_t {x:Nat} (h:(97≤x∧x≤122)∨(48≤x∧x≤57)∨x=45):okNm x=true:=decide_eq_true h
theorem okNm_f {x:Nat} (h: ¬ ((97≤x∧x≤122)∨(48≤x∧x≤57)∨x=45)):okNm x=false:=decide_eq_false h
set_option maxHeartbeats 8000000 in
theorem name_i:PureOk Tryz.prog 54 (strC nameB):=by
 refine pure_rel 1 (tab_cons dig_i tab_nil) mixed [.tmp 2] Tryz.func54 rfl rfl (by kernel_rfl) (by kernel_rfl) (fun _=>rfl) (by kernel_rfl) ?_
 rintro s K hl hK
 unfold entry
 repeat' (first|((first|apply qa1|apply qh1|apply qg1 rfl|apply qcd);(try intro K hk);focus (simp only [go_sem,Nat.reduceEqDiff,Int.reduceToNat,↓reduceIte,reduceCtorEq];first|exact rfl|((repeat refine ai ?_);intros;apply hk;clear hk K)))|apply qw8|apply qw1|apply qw6|apply qt1|apply qw5|apply qw2|apply qt3|apply qw4|apply qj1|apply qj2|apply qj3|apply qj4|apply qu1|(refine qj6 ?_ ?_<;>intro hc<;>(try simp only [hc])<;>(try simp only [decide_eq_true_eq,decide_eq_false_iff_not] at hc)<;>(try (exfalso;omega))))
 all_goals (first
  | (((first|refine fin_ret ?_|refine fin_end ?_);simp only [go_sem,↓upd_def,↓reduceIte])
     exact K_bool hK (by unfold nameB;rw [decide_eq_false (by omega)];rfl))
  | skip)
 refine s_loop (ι:=Nat) (fun k=>[(0,.str s),(2,.bool false),(3,.int .i64 k)]) (fun _=>[]) 0 (fun k=>k≤s.length∧allB okNm (s.take k)=true) (fun k=>s.length - k) 0 (by omega) ⟨by omega,by simp [allB]⟩ ?_ ?_
 · simp [fits,fitsT,fitsM,upd_def,PV.nmb]
 rintro k ⟨hk,hp⟩
 have hb:=byte_lt s k
 simp only [mkS,mkT,mkM]
 repeat' (first|((first|apply qa1|apply qh1|apply qg1 rfl|apply qcd);(try intro K hk);focus (simp only [go_sem,Nat.reduceEqDiff,↓reduceIte,reduceCtorEq,digC];first|exact rfl|((repeat refine ai ?_);intros;apply hk;clear hk K)))|apply qw8|apply qw1|apply qw6|apply qt1|apply qw5|apply qw2|apply qt2|apply qt3|apply qt4|apply qt5|apply qt6|apply qw3|apply qw4|apply qj1|apply qj2|apply qj3|apply qj4|apply qu1|(refine qj6 ?_ ?_<;>intro hc<;>(try simp only [hc])<;>(try simp only [decide_eq_true_eq,decide_eq_false_iff_not,Bool.not_eq_true',Bool.not_eq_false'] at hc)<;>(try (exfalso;omega))))
 all_goals (try have d1:=digI_t.1 ‹_›)
 all_goals (try have d2:=digI_f.1 ‹_›)
 all_goals first
  | (exfalso;omega)
  | (refine s_again (k+1) ?_ ?_ ?_<;>(first|omega|(dsimp only;omega)|skip)
     · exact ⟨by omega,by rw [allB_snoc (by omega),hp,okNm_t (x:=(s.getD k 0).toNat) (by omega)];try rfl⟩
     · simp [fits,fitsT,fitsM,upd_def,PV.nmb]
     done)
  | (((first|refine fin_ret ?_|refine fin_end ?_);simp only [go_sem,↓upd_def,↓reduceIte])
     exact K_bool hK (by unfold nameB;rw [allB_f (k:=k) (by omega) (okNm_f (x:=(s.getD k 0).toNat) (by omega)),Bool.and_false]))
  | (((first|refine fin_ret ?_|refine fin_end ?_);simp only [go_sem,↓upd_def,↓reduceIte])
     rw [List.take_of_length_le (by omega)] at hp
     exact K_bool hK (by unfold nameB;rw [hp,decide_eq_true (by omega)];rfl))
end Go.Proofs.YtnbjogilidfkdaaGreat

/- The machine of modes, as data: states, one step, many steps. No program. -/
namespace Go.Proofs.YtnbjogilidfkdaaGreat
set_option maxRecDepth 100000
set_option linter.unusedVariables false
set_option linter.unusedSimpArgs false
open Go.RowKit
structure St where
 mode:Int
 tag:Bs
 attr:Bs
 seen:Bool
 deriving DecidableEq
def encS (s:St):List PV:=[.int .i64 s.mode,.str s.tag,.str s.attr,.bool s.seen]
@[go_sem] theorem encS_mk (m:Int) (t a:Bs) (b:Bool):encS ⟨m,t,a,b⟩=[.int .i64 m,.str t,.str a,.bool b]:=rfl
@[go_sem] theorem encS_iff {s t:St}:encS s=encS t↔s=t:=by
 constructor
 · intro h
   cases s;cases t
   simp only [encS,List.cons.injEq,PV.int.injEq,PV.str.injEq,PV.bool.injEq,true_and,and_true] at h
   obtain ⟨rfl,rfl,rfl,rfl⟩:=h
   rfl
 · rintro rfl;rfl
def bad:St:=⟨15,[],[],false⟩
def st0:St:=⟨0,[],[],false⟩
/-- Lengths are lengths. -/
def okS (s:St):Prop:=s.tag.length≤9223372036854775807∧s.attr.length≤9223372036854775807
def tagOk (s:St):Bool:=if 2≤s.mode∧s.mode≤8 then nameB s.tag else if s.mode=9 then decide (s.tag=[]) || nameB s.tag else decide (s.tag=[])
def attrOk (s:St):Bool:=if 4≤s.mode∧s.mode≤8 then nameB s.attr else decide (s.attr=[])
def seenOk (s:St):Bool:=if s.mode=6∨s.mode=7 then true else if s.mode=8 then s.seen else !s.seen
def stV (s:St):Bool:=decide (0≤s.mode∧s.mode≤15) && tagOk s && attrOk s && seenOk s
def nmByte (b:UInt8):Bool:=isLet b || isDig b || decide (b.toNat=45)
def bareB (b:UInt8):Bool:=isLet b || isDig b || hasB [45,95,46,47,58] b
def script:Bs:=[115,99,114,105,112,116]
def longT (s:St) (b:UInt8):St:=if s.tag.length+1 > 10 then bad else ⟨s.mode,s.tag++[low1 b],s.attr,s.seen⟩
def longA (s:St) (b:UInt8):St:=if s.attr.length+1 > 10 then bad else ⟨s.mode,s.tag,s.attr++[low1 b],s.seen⟩
def stepTagM (s:St) (b:UInt8):St :=
 if b.toNat=62 then (if s.tag=script then ⟨11,[],[],false⟩ else st0)
 else if b.toNat=32 then ⟨3,s.tag,[],false⟩
 else if s.mode=2∧nmByte b=true then longT s b
 else if s.mode=3∧isLet b=true then longA ⟨4,s.tag,s.attr,s.seen⟩ b
 else if s.mode=4∧nmByte b=true then longA s b
 else if s.mode=4∧b.toNat=61 then ⟨5,s.tag,s.attr,s.seen⟩
 else if s.mode=8∧bareB b=true then s
 else bad
def stepV (s:St) (b:UInt8):St :=
 if s.mode=0 then (if b.toNat=60 then ⟨1,[],[],false⟩ else st0)
 else if s.mode=1 then (if isLet b=true then ⟨2,[low1 b],[],false⟩ else if b.toNat=47 then ⟨9,[],[],false⟩ else if b.toNat=33 then ⟨10,[],[],false⟩ else bad)
 else if s.mode=2∨s.mode=3∨s.mode=4∨s.mode=8 then stepTagM s b
 else if s.mode=5 then (if b.toNat=34 then ⟨6,s.tag,s.attr,false⟩ else if b.toNat=39 then ⟨7,s.tag,s.attr,false⟩ else if bareB b=true then ⟨8,s.tag,s.attr,true⟩ else bad)
 else if s.mode=6 then (if b.toNat=34 then ⟨3,s.tag,[],false⟩ else ⟨6,s.tag,s.attr,true⟩)
 else if s.mode=7 then (if b.toNat=39 then ⟨3,s.tag,[],false⟩ else ⟨7,s.tag,s.attr,true⟩)
 else if s.mode=9 then (if b.toNat=62∧s.tag≠[] then st0 else if isLet b=true∨s.tag≠[]∧(isDig b=true∨b.toNat=45) then longT s b else bad)
 else if s.mode=10 then (if b.toNat=62 then st0 else s)
 else if s.mode=11 then (if b.toNat=60 then ⟨14,[],[],false⟩ else if b.toNat=34 then ⟨12,[],[],false⟩ else ⟨11,[],[],false⟩)
 else if s.mode=14 then (if b.toNat=60 then ⟨14,[],[],false⟩ else if b.toNat=34 then ⟨12,[],[],false⟩ else if b.toNat=47 then ⟨9,[],[],false⟩ else ⟨11,[],[],false⟩)
 else if s.mode=12 then (if b.toNat=34 then ⟨11,[],[],false⟩ else if b.toNat=92 then ⟨13,[],[],false⟩ else if b.toNat=60 then bad else ⟨12,[],[],false⟩)
 else if s.mode=13 then (if b.toNat=60 then bad else ⟨12,[],[],false⟩)
 else bad
def step (s:St) (b:UInt8):St:=if stV s=true then stepV s b else bad
def run (s:St) (t:Bs):St:=t.foldl step s
def afterS (s:St) (t:Bs):St:=if stV s=true then run s t else bad
theorem run_cons (s:St) (b:UInt8) (t:Bs):run s (b::t)=run (step s b) t:=rfl
theorem run_append (s:St) (t u:Bs):run s (t++u)=run (run s t) u:=List.foldl_append
theorem run_snoc {s:St} {t:Bs} {k:Nat} (h:k<t.length):run s (t.take (k+1))=step (run s (t.take k)) (t.getD k 0):=by
 rw [take_succ_getD h,run_append];rfl
theorem stV_parts {s:St} (h:stV s=true):0≤s.mode∧s.mode≤15∧tagOk s=true∧attrOk s=true∧seenOk s=true:=by
 unfold stV at h
 simp only [Bool.and_eq_true,decide_eq_true_eq] at h
 exact ⟨h.1.1.1.1,h.1.1.1.2,h.1.1.2,h.1.2,h.2⟩
theorem stV_tag0 {s:St} (h:stV s=true) (hm:s.mode<2∨9<s.mode):s.tag=[]:=by
 have:=(stV_parts h).2.2.1
 unfold tagOk at this
 rw [if_neg (by omega),if_neg (by omega)] at this
 simpa using this
theorem stV_attr0 {s:St} (h:stV s=true) (hm:s.mode<4∨8<s.mode):s.attr=[]:=by
 have:=(stV_parts h).2.2.2.1
 unfold attrOk at this
 rw [if_neg (by omega)] at this
 simpa using this
theorem stV_seen0 {s:St} (h:stV s=true) (hm:s.mode<6∨8<s.mode):s.seen=false:=by
 have:=(stV_parts h).2.2.2.2
 unfold seenOk at this
 rw [if_neg (by omega),if_neg (by omega)] at this
 simpa using this
theorem stV_seen8 {s:St} (h:stV s=true) (hm:s.mode=8):s.seen=true:=by
 have:=(stV_parts h).2.2.2.2
 unfold seenOk at this
 rw [if_neg (by omega),if_pos hm] at this
 exact this
theorem stV_tagN {s:St} (h:stV s=true) (hm:2≤s.mode∧s.mode≤8):nameB s.tag=true:=by
 have:=(stV_parts h).2.2.1
 unfold tagOk at this
 rwa [if_pos hm] at this
theorem stV_attrN {s:St} (h:stV s=true) (hm:4≤s.mode∧s.mode≤8):nameB s.attr=true:=by
 have:=(stV_parts h).2.2.2.1
 unfold attrOk at this
 rwa [if_pos hm] at this
theorem stV_tag9 {s:St} (h:stV s=true) (hm:s.mode=9):s.tag=[]∨nameB s.tag=true:=by
 have:=(stV_parts h).2.2.1
 unfold tagOk at this
 rw [if_neg (by omega),if_pos hm] at this
 simpa using this
theorem nameB_len {s:Bs} (h:nameB s=true):1≤s.length∧s.length≤10:=by
 unfold nameB at h
 simp only [Bool.and_eq_true,decide_eq_true_eq] at h
 exact ⟨h.1.1,h.1.2.1⟩
theorem stV_tag_len {s:St} (h:stV s=true):s.tag.length≤10:=by
 by_cases h1:s.mode<2∨9<s.mode
 · rw [stV_tag0 h h1];exact Nat.zero_le _
 · by_cases h2:s.mode=9
   · rcases stV_tag9 h h2 with e|e
     · rw [e];exact Nat.zero_le _
     · exact (nameB_len e).2
   · exact (nameB_len (stV_tagN h (by omega))).2
theorem stV_attr_len {s:St} (h:stV s=true):s.attr.length≤10:=by
 by_cases h1:s.mode<4∨8<s.mode
 · rw [stV_attr0 h h1];exact Nat.zero_le _
 · exact (nameB_len (stV_attrN h (by omega))).2
theorem okS_of {s:St} (h:stV s=true):okS s:=⟨by have:=stV_tag_len h;omega,by have:=stV_attr_len h;omega⟩
theorem stV_bad:stV bad=true:=by decide
theorem stV_st0:stV st0=true:=by decide
theorem low1_let {b:UInt8} (h:isLet b=true):97≤(low1 b).toNat∧(low1 b).toNat≤122:=by
 rw [low1_nat]
 unfold isLet at h
 rw [decide_eq_true_eq] at h
 split<;>omega
theorem low1_nm {b:UInt8} (h:nmByte b=true):okNm (low1 b).toNat=true:=by
 unfold nmByte at h
 simp only [Bool.or_eq_true,decide_eq_true_eq] at h
 rcases h with (h|h)|h
 · have:=low1_let h
   exact okNm_t (by omega)
 · unfold isDig at h
   rw [decide_eq_true_eq] at h
   rw [low1_nat,if_neg (by omega)]
   exact okNm_t (by omega)
 · rw [low1_nat,if_neg (by omega)]
   exact okNm_t (by omega)
theorem nameB_one {c:UInt8} (h:97≤c.toNat∧c.toNat≤122):nameB [c]=true:=by
 have hc:okNm c.toNat=true:=okNm_t (by omega)
 simp [nameB,allB,h,hc]
theorem nameB_more {s:Bs} {c:UInt8} (h:nameB s=true) (hl:s.length+1≤10) (hc:okNm c.toNat=true):nameB (s++[c])=true:=by
 unfold nameB at *
 simp only [Bool.and_eq_true,decide_eq_true_eq] at h
 obtain ⟨⟨h1,h2,h3,h4⟩,h5⟩:=h
 have e:(s++[c]).getD 0 0=s.getD 0 0:=by
  cases s with
  | nil=>simp at h1
  | cons x r=>rfl
 simp only [Bool.and_eq_true,decide_eq_true_eq,e,List.length_append,List.length_singleton]
 refine ⟨⟨by omega,by omega,h3,h4⟩,?_⟩
 unfold allB at *
 rw [List.all_append,h5]
 simp [hc]
theorem stV_longT {s:St} {b:UInt8} (h:stV s=true) (hb:nmByte b=true) (hm:s.mode=2∨s.mode=9∧(isLet b=true∨s.tag≠[])):stV (longT s b)=true:=by
 unfold longT
 split
 · exact stV_bad
 · rename_i hl
   have hn:nameB (s.tag++[low1 b])=true:=by
    rcases hm with hm|⟨hm,h2⟩
    · exact nameB_more (stV_tagN h (by omega)) (by omega) (low1_nm hb)
    · rcases stV_tag9 h hm with e|e
      · rw [e]
        exact nameB_one (low1_let (h2.resolve_right (fun h=>h e)))
      · exact nameB_more e (by omega) (low1_nm hb)
   have ha:=stV_attr0 h (by omega)
   have hs:=stV_seen0 h (by omega)
   rcases hm with hm|⟨hm,_⟩<;>simp [stV,tagOk,attrOk,seenOk,hm,hn,ha,hs]
theorem let_nm {b:UInt8} (h:isLet b=true):nmByte b=true:=by simp [nmByte,h]
theorem stV_longA {s:St} {b:UInt8} (h:stV s=true) (hb:nmByte b=true) (hm:s.mode=3∧isLet b=true∨s.mode=4):stV (longA ⟨4,s.tag,s.attr,s.seen⟩ b)=true:=by
 unfold longA
 split
 · exact stV_bad
 · rename_i hl
   dsimp only at hl
   have hn:nameB (s.attr++[low1 b])=true:=by
    rcases hm with ⟨hm,h2⟩|hm
    · rw [stV_attr0 h (by omega)]
      exact nameB_one (low1_let h2)
    · exact nameB_more (stV_attrN h (by omega)) (by omega) (low1_nm hb)
   have ht:=stV_tagN h (by omega)
   have hs:=stV_seen0 h (by omega)
   simp [stV,tagOk,attrOk,seenOk,hn,ht,hs]
section
variable {s:St} {b:UInt8}
theorem stepV_0 (h:s.mode=0):stepV s b=if b.toNat=60 then ⟨1,[],[],false⟩ else st0:=by simp [stepV,h]
theorem stepV_1 (h:s.mode=1):stepV s b=if isLet b=true then ⟨2,[low1 b],[],false⟩ else if b.toNat=47 then ⟨9,[],[],false⟩ else if b.toNat=33 then ⟨10,[],[],false⟩ else bad:=by simp [stepV,h]
theorem stepV_t (h:s.mode=2∨s.mode=3∨s.mode=4∨s.mode=8):stepV s b=stepTagM s b:=by
 unfold stepV
 rw [if_neg (by omega),if_neg (by omega),if_pos h]
theorem stepV_5 (h:s.mode=5):stepV s b=if b.toNat=34 then ⟨6,s.tag,s.attr,false⟩ else if b.toNat=39 then ⟨7,s.tag,s.attr,false⟩ else if bareB b=true then ⟨8,s.tag,s.attr,true⟩ else bad:=by simp [stepV,h]
theorem stepV_6 (h:s.mode=6):stepV s b=if b.toNat=34 then ⟨3,s.tag,[],false⟩ else ⟨6,s.tag,s.attr,true⟩:=by simp [stepV,h]
theorem stepV_7 (h:s.mode=7):stepV s b=if b.toNat=39 then ⟨3,s.tag,[],false⟩ else ⟨7,s.tag,s.attr,true⟩:=by simp [stepV,h]
theorem stepV_9 (h:s.mode=9):stepV s b=if b.toNat=62∧s.tag≠[] then st0 else if isLet b=true∨s.tag≠[]∧(isDig b=true∨b.toNat=45) then longT s b else bad:=by simp [stepV,h]
theorem stepV_10 (h:s.mode=10):stepV s b=if b.toNat=62 then st0 else s:=by simp [stepV,h]
theorem stepV_11 (h:s.mode=11):stepV s b=if b.toNat=60 then ⟨14,[],[],false⟩ else if b.toNat=34 then ⟨12,[],[],false⟩ else ⟨11,[],[],false⟩:=by simp [stepV,h]
theorem stepV_14 (h:s.mode=14):stepV s b=if b.toNat=60 then ⟨14,[],[],false⟩ else if b.toNat=34 then ⟨12,[],[],false⟩ else if b.toNat=47 then ⟨9,[],[],false⟩ else ⟨11,[],[],false⟩:=by simp [stepV,h]
theorem stepV_12 (h:s.mode=12):stepV s b=if b.toNat=34 then ⟨11,[],[],false⟩ else if b.toNat=92 then ⟨13,[],[],false⟩ else if b.toNat=60 then bad else ⟨12,[],[],false⟩:=by simp [stepV,h]
theorem stepV_13 (h:s.mode=13):stepV s b=if b.toNat=60 then bad else ⟨12,[],[],false⟩:=by simp [stepV,h]
theorem stepV_15 (h:s.mode=15):stepV s b=bad:=by simp [stepV,h]
end
theorem modes {s:St} (h:stV s=true):s.mode=0∨s.mode=1∨(s.mode=2∨s.mode=3∨s.mode=4∨s.mode=8)∨s.mode=5∨s.mode=6∨s.mode=7∨s.mode=9∨s.mode=10∨s.mode=11∨s.mode=12∨s.mode=13∨s.mode=14∨s.mode=15:=by
 have:=stV_parts h
 omega
theorem stV_tagM {s:St} {b:UInt8} (h:stV s=true) (hm:s.mode=2∨s.mode=3∨s.mode=4∨s.mode=8):stV (stepTagM s b)=true:=by
 have ht:=stV_tagN h (by omega)
 unfold stepTagM
 split
 · split<;>decide
 split
 · simp [stV,tagOk,attrOk,seenOk,ht]
 split
 · rename_i h1
   exact stV_longT h h1.2 (.inl h1.1)
 split
 · rename_i h1
   exact stV_longA h (let_nm h1.2) (.inl h1)
 split
 · rename_i h1
   have e:s=⟨4,s.tag,s.attr,s.seen⟩:=by cases s;have:=h1.1;simp at this;simp [this]
   rw [e]
   exact stV_longA h h1.2 (.inr h1.1)
 split
 · rename_i h1
   simp [stV,tagOk,attrOk,seenOk,ht,stV_attrN h (by omega),stV_seen0 h (by omega)]
 split
 · exact h
 · exact stV_bad
theorem stV_step (s:St) (b:UInt8):stV (step s b)=true:=by
 unfold step
 split
 · rename_i h
   rcases modes h with m|m|m|m|m|m|m|m|m|m|m|m|m
   · rw [stepV_0 m];split<;>decide
   · rw [stepV_1 m]
     split
     · rename_i hq
       simp [stV,tagOk,attrOk,seenOk,nameB_one (low1_let hq)]
     · (repeat' split)<;>decide
   · rw [stepV_t m];exact stV_tagM h m
   · have ht:=stV_tagN h (by omega)
     have ha:=stV_attrN h (by omega)
     rw [stepV_5 m]
     (repeat' split)<;>first|exact stV_bad|simp [stV,tagOk,attrOk,seenOk,ht,ha]
   · have ht:=stV_tagN h (by omega)
     have ha:=stV_attrN h (by omega)
     rw [stepV_6 m]
     split<;>simp [stV,tagOk,attrOk,seenOk,ht,ha]
   · have ht:=stV_tagN h (by omega)
     have ha:=stV_attrN h (by omega)
     rw [stepV_7 m]
     split<;>simp [stV,tagOk,attrOk,seenOk,ht,ha]
   · rw [stepV_9 m]
     split
     · exact stV_st0
     split
     · rename_i hq
       refine stV_longT h ?_ (.inr ⟨m,?_⟩)
       · rcases hq with hq|⟨_,hq|hq⟩<;>simp [nmByte,hq]
       · rcases hq with hq|⟨hq,_⟩
         · exact .inl hq
         · exact .inr hq
     · exact stV_bad
   · rw [stepV_10 m];split
     · exact stV_st0
     · exact h
   · rw [stepV_11 m];(repeat' split)<;>decide
   · rw [stepV_12 m];(repeat' split)<;>decide
   · rw [stepV_13 m];(repeat' split)<;>decide
   · rw [stepV_14 m];(repeat' split)<;>decide
   · rw [stepV_15 m];decide
 · exact stV_bad
theorem stV_run {s:St} (h:stV s=true) (t:Bs):stV (run s t)=true:=by
 induction t generalizing s with
 | nil=>exact h
 | cons b r ih=>rw [run_cons];exact ih (stV_step s b)
theorem step_bad (b:UInt8):step bad b=bad:=rfl
theorem run_bad (t:Bs):run bad t=bad:=by
 induction t with
 | nil=>rfl
 | cons b r ih=>rw [run_cons,step_bad,ih]
theorem stV_afterS (s:St) (t:Bs):stV (afterS s t)=true:=by
 unfold afterS
 split
 · exact stV_run ‹_› t
 · exact stV_bad
def addrN (a:Bs):Bool:=decide (a=[104,114,101,102]) || decide (a=[115,114,99]) || decide (a=[97,99,116,105,111,110])
def styleN:Bs:=[115,116,121,108,101]
def placeM (s:St):Int :=
 if stV s=false then 0
 else if s.mode=0 then 1
 else if s.mode=12 then 5
 else if s.mode=6∨s.mode=7 then
  (if List.isPrefixOf [111,110] s.attr=true∨s.attr=styleN then 0 else if addrN s.attr=false then 2 else if s.seen=true then 4 else 3)
 else 0
def behindM (s:St):St:=if placeM s=0 then bad else if s.mode=6∨s.mode=7 then ⟨s.mode,s.tag,s.attr,true⟩ else s
theorem placeM_bd (s:St):0≤placeM s∧placeM s≤5:=by unfold placeM;(repeat' split)<;>decide
theorem placeM_stV {s:St} (h:placeM s≠0):stV s=true:=by
 unfold placeM at h
 split at h
 · exact absurd rfl h
 · rename_i hq;cases hv:stV s with
   | true=>rfl
   | false=>exact absurd hv hq
theorem stV_behind (s:St):stV (behindM s)=true:=by
 unfold behindM
 split
 · exact stV_bad
 · rename_i h
   have hv:=placeM_stV h
   split
   · rename_i hm
     simp only [stV,tagOk,attrOk,seenOk]
     have h1:=stV_tagN hv (by omega)
     have h2:=stV_attrN hv (by omega)
     rcases hm with e|e<;>simp [e,h1,h2]
   · exact hv
end Go.Proofs.YtnbjogilidfkdaaGreat

/- The laws' own functions on parts: sizes, copies, comparison. -/
namespace Go.Proofs.YtnbjogilidfkdaaGreat
attribute [local irreducible] awp arun acalm FinP Fin AX.then AX.inBlock Again aG gsel amix amixN amixC aop aopc aopd cutK
attribute [local go_sem] aBSliceD aSlice aSliceC boundOf aMk aCall aCallC aLenL aLen aPick_t aPick_f aNil aAlloc aBox aBuild bldPV aBSlice bsPV aApp newsOf destOf drp aConvX aConv aConvInt aLoad cellsAt aStore cellsPV setAt aFld aField aIdx aIndex aUn aBin' aBin aMax aExtract pvOf PV.isCell nmbL PV.nmb List.map_cons List.map_nil List.all_cons List.all_nil Bool.and_true Bool.true_and if_true if_false List.getD_cons_zero List.getD_cons_succ List.getD_nil Option.isSome_some true_and and_true and_self eq_self true_or or_true List.drop_zero List.drop_succ_cons List.drop_nil List.take_zero List.take_succ_cons List.take_nil List.length_cons List.length_nil List.length_map Option.getD_some Option.getD_none List.nil_append List.cons_append List.append_nil Option.some.injEq exists_eq_left' List.getElem?_cons_zero List.getElem?_cons_succ Int.toNat_natCast Int.natCast_inj toNat_succ Nat.zero_add res res1 resC owns owns1 ownsC List.flatMap_cons List.flatMap_nil List.flatten_cons List.flatten_nil List.mem_cons List.not_mem_nil or_false false_or forall_eq forall_eq_or_imp isFro frz frz1 pureC tabA isBld List.cons.injEq PV.seq.injEq PV.int.injEq PV.str.injEq PV.bool.injEq PV.agg.injEq inR tab Γof aRes packR Option.map_some Option.map_none rel Prod.exists exists_and_left exists_eq_left and_assoc beq_self_eq_true Bool.not_true Bool.not_false decide_true decide_false List.set_cons_zero List.set_cons_succ rst_nil rst_cons
attribute [local go_sem ↓] evT upd_def aop aopc aopd
set_option maxRecDepth 100000
set_option linter.unusedVariables false
set_option linter.unusedSimpArgs false
open Go.RowKit
/-- What is left of a size. -/
def leftI (left:Int) (n:Nat):Int:=if (n:Int)≤left then left - n else -1
def szLC (n:Nat):PC:=rel (α:=List PartD×Int) (fun x=>[.seq (encPs x.1),.int .i64 x.2]) (fun x=>wtL x.1<n∧okL x.1∧x.1.length≤9223372036854775807∧0≤x.2∧x.2≤1048576) (fun x=> .int .i64 (leftI x.2 (wtL x.1)))
def szPC (n:Nat):PC:=rel (α:=PartD×Int) (fun x=>[.agg (encP x.1),.int .i64 x.2]) (fun x=>wtP x.1<n∧okP x.1∧0≤x.2∧x.2≤1048576) (fun x=> .int .i64 (leftI x.2 (wtP x.1)))
theorem leftI_neg {left:Int} {n:Nat} (h:leftI left n<0):left<n:=by unfold leftI at h;split at h<;>omega
theorem leftI_pos {left:Int} {n:Nat} (h: ¬ leftI left n<0):(n:Int)≤left∧leftI left n=left - n:=by unfold leftI at *;split at h<;>split<;>omega
set_option maxHeartbeats 4000000 in
theorem szP_of (n:Nat) (h:PureOk Tryz.prog 12 (szLC n)):PureOk Tryz.prog 38 (szPC n):=by
 refine pure_rel 2 (tab_cons h tab_nil) mixed [.tmp 4] Tryz.func38 rfl rfl (by kernel_rfl) (by kernel_rfl) (fun _=>rfl) (by kernel_rfl) ?_
 rintro ⟨x,left⟩ K ⟨hn,hok,h0,h1⟩ hK
 obtain ⟨kd,t,nm,ps,os⟩:=x
 have hx2:=encP_mk kd t nm ps os
 have hw:=wtP_mk kd t nm ps os
 rw [okP_mk] at hok
 simp only [hx2,hw] at *
 obtain ⟨o1,o2,o3,o4,o5,o6⟩:=hok
 clear hx2 hw
 unfold entry
 repeat' (first|((first|apply qa1|apply qa2|apply qa3|apply qh1|apply qh2|apply qg1 rfl|apply qcd);(try intro K hk);focus (simp only [go_sem,Nat.reduceEqDiff,Nat.reduceAdd,Nat.reduceLeDiff,Nat.reduceLT,Nat.reduceSub,Int.reduceToNat,↓reduceIte,reduceCtorEq,szLC];first|exact rfl|((repeat refine ai ?_);intros;apply hk;clear hk K)))|apply qw8|apply qw1|apply qw6|apply qt1|apply qw5|apply qw2|apply qw9|apply qt2|apply qt3|apply qt4|apply qt5|apply qt6|apply qw3|apply qw4|apply qj1|apply qj2|apply qj3|apply qj4|apply qj5|apply qu1|apply qu2|(refine qj6 ?_ ?_<;>intro hc<;>(try simp only [hc])<;>(try simp only [decide_eq_true_eq,decide_eq_false_iff_not,Bool.not_eq_true',Bool.not_eq_false',Bool.not_eq_true,reduceCtorEq] at hc)<;>(try (exfalso;omega)))|(refine qt7 ?_ ?_;focus decide)|(refine qw7 ?_ ?_ ?_;(focus (decide +kernel));(focus (decide +kernel))))
 · ((first|refine fin_ret ?_|refine fin_end ?_);simp only [go_sem,↓upd_def,Nat.reduceEqDiff,Nat.reduceAdd,↓reduceIte,reduceCtorEq])
   exact K_int hK (by unfold leftI;split<;>omega)
 · ((first|refine fin_ret ?_|refine fin_end ?_);simp only [go_sem,↓upd_def,Nat.reduceEqDiff,Nat.reduceAdd,↓reduceIte,reduceCtorEq])
   exact K_int hK (by unfold leftI;split<;>omega)
 · ((first|refine fin_ret ?_|refine fin_end ?_);simp only [go_sem,↓upd_def,Nat.reduceEqDiff,Nat.reduceAdd,↓reduceIte,reduceCtorEq])
   have:=leftI_neg ‹_›
   exact K_int hK (by unfold leftI;split<;>omega)
 · have:=leftI_pos ‹_›
   repeat' (first|((first|apply qa1|apply qa2|apply qa3|apply qh1|apply qh2|apply qg1 rfl|apply qcd);(try intro K hk);focus (simp only [go_sem,Nat.reduceEqDiff,Nat.reduceAdd,Nat.reduceLeDiff,Nat.reduceLT,Nat.reduceSub,Int.reduceToNat,↓reduceIte,reduceCtorEq,szLC];first|exact rfl|((repeat refine ai ?_);intros;apply hk;clear hk K)))|apply qw8|apply qw1|apply qw6|apply qt1|apply qw5|apply qw2|apply qw9|apply qt2|apply qt3|apply qt4|apply qt5|apply qt6|apply qw3|apply qw4|apply qj1|apply qj2|apply qj3|apply qj4|apply qj5|apply qu1|apply qu2|(refine qj6 ?_ ?_<;>intro hc<;>(try simp only [hc])<;>(try simp only [decide_eq_true_eq,decide_eq_false_iff_not,Bool.not_eq_true',Bool.not_eq_false',Bool.not_eq_true,reduceCtorEq] at hc)<;>(try (exfalso;omega)))|(refine qt7 ?_ ?_;focus decide)|(refine qw7 ?_ ?_ ?_;(focus (decide +kernel));(focus (decide +kernel))))
   all_goals
    ((first|refine fin_ret ?_|refine fin_end ?_);simp only [go_sem,↓upd_def,Nat.reduceEqDiff,Nat.reduceAdd,↓reduceIte,reduceCtorEq])
    rw [this.2] at hc
    try rw [this.2]
    exact K_int hK (by unfold leftI at hc ⊢;split at hc<;>split<;>omega)
set_option maxHeartbeats 4000000 in
theorem szL_of (n:Nat) (h:PureOk Tryz.prog 38 (szPC n)):PureOk Tryz.prog 12 (szLC (n+1)):=by
 refine pure_rel 2 (tab_cons h tab_nil) mixed [.tmp 4] Tryz.func12 rfl rfl (by kernel_rfl) (by kernel_rfl) (fun _=>rfl) (by kernel_rfl) ?_
 rintro ⟨xs,left⟩ K ⟨hn,hok,hl,h0,h1⟩ hK
 have hL:=encPs_length xs
 dsimp only at *
 have hlw:=len_le_wtL xs
 unfold entry
 repeat' (first|((first|apply qa1|apply qa2|apply qa3|apply qh1|apply qh2|apply qg1 rfl|apply qcd);(try intro K hk);focus (simp only [go_sem,Nat.reduceEqDiff,Nat.reduceAdd,Nat.reduceLeDiff,Nat.reduceLT,Nat.reduceSub,Int.reduceToNat,↓reduceIte,reduceCtorEq,szPC];first|exact rfl|((repeat refine ai ?_);intros;apply hk;clear hk K)))|apply qw8|apply qw1|apply qw6|apply qt1|apply qw5|apply qw2|apply qw9|apply qt2|apply qt3|apply qt4|apply qt5|apply qt6|apply qw3|apply qw4|apply qj1|apply qj2|apply qj3|apply qj4|apply qj5|apply qu1|apply qu2|(refine qj6 ?_ ?_<;>intro hc<;>(try simp only [hc])<;>(try simp only [decide_eq_true_eq,decide_eq_false_iff_not,Bool.not_eq_true',Bool.not_eq_false',Bool.not_eq_true,reduceCtorEq] at hc)<;>(try (exfalso;omega)))|(refine qt7 ?_ ?_;focus decide)|(refine qw7 ?_ ?_ ?_;(focus (decide +kernel));(focus (decide +kernel))))
 · ((first|refine fin_ret ?_|refine fin_end ?_);simp only [go_sem,↓upd_def,Nat.reduceEqDiff,Nat.reduceAdd,↓reduceIte,reduceCtorEq])
   exact K_int hK (by unfold leftI;split<;>omega)
 refine s_loop (ι:=Nat) (fun k=>[(0,.seq (encPs xs)),(1,.int .i64 (left - xs.length - (wtL (xs.take k) - k))),(4,.int .i64 0),(5,.int .i64 k)]) (fun _=>[]) 0 (fun k=>k≤xs.length∧0≤left - xs.length - ((wtL (xs.take k):Int) - k)) (fun k=>xs.length - k) 0 (Nat.le_refl _) ⟨Nat.zero_le _,by simp [wtL_nil];omega⟩ ?_ ?_
 · simp [fits,fitsT,fitsM,upd_def,PV.nmb,nmbL,MB.nmb,List.getD_cons_zero,List.getD_cons_succ,wtL_nil]
 rintro k ⟨hk,hp⟩
 have hlk:=len_le_wtL (xs.take k)
 rw [List.length_take_of_le hk] at hlk
 simp only [mkS,mkT,mkM]
 repeat' (first|((first|apply qa1|apply qa2|apply qa3|apply qh1|apply qh2|apply qg1 rfl|apply qcd);(try intro K hk);focus (simp only [go_sem,Nat.reduceEqDiff,Nat.reduceAdd,Nat.reduceLeDiff,Nat.reduceLT,Nat.reduceSub,Int.reduceToNat,↓reduceIte,reduceCtorEq,szPC];first|exact rfl|((repeat refine ai ?_);intros;apply hk;clear hk K)))|apply qw8|apply qw1|apply qw6|apply qt1|apply qw5|apply qw2|apply qw9|apply qt2|apply qt3|apply qt4|apply qt5|apply qt6|apply qw3|apply qw4|apply qj1|apply qj2|apply qj3|apply qj4|apply qj5|apply qu1|apply qu2|(refine qj6 ?_ ?_<;>intro hc<;>(try simp only [hc])<;>(try simp only [decide_eq_true_eq,decide_eq_false_iff_not,Bool.not_eq_true',Bool.not_eq_false',Bool.not_eq_true,reduceCtorEq] at hc)<;>(try (exfalso;omega)))|(refine qt7 ?_ ?_;focus decide)|(refine qw7 ?_ ?_ ?_;(focus (decide +kernel));(focus (decide +kernel))))
 · obtain ⟨x,hx⟩:=get_some (xs:=xs) (k:=k) (by omega)
   have htk:=take_snoc' hx
   have ws:=wtL_split hx
   have wd:=len_le_wtL (xs.drop (k+1))
   rw [List.length_drop] at wd
   have hok':=okL_get hok hx
   have hget:=encPs_get xs
   repeat' (first|((first|apply qa1|apply qa2|apply qa3|apply qh1|apply qh2|apply qg1 rfl|apply qcd);(try intro K hk);focus (simp only [go_sem,Nat.reduceEqDiff,Nat.reduceAdd,Nat.reduceLeDiff,Nat.reduceLT,Nat.reduceSub,Int.reduceToNat,↓reduceIte,reduceCtorEq,szPC,hget,hx];first|exact rfl|((repeat refine ai ?_);intros;apply hk;clear hk K)))|apply qw8|apply qw1|apply qw6|apply qt1|apply qw5|apply qw2|apply qw9|apply qt2|apply qt3|apply qt4|apply qt5|apply qt6|apply qw3|apply qw4|apply qj1|apply qj2|apply qj3|apply qj4|apply qj5|apply qu1|apply qu2|(refine qj6 ?_ ?_<;>intro hc<;>(try simp only [hc])<;>(try simp only [decide_eq_true_eq,decide_eq_false_iff_not,Bool.not_eq_true',Bool.not_eq_false',Bool.not_eq_true,reduceCtorEq] at hc)<;>(try (exfalso;omega)))|(refine qt7 ?_ ?_;focus decide)|(refine qw7 ?_ ?_ ?_;(focus (decide +kernel));(focus (decide +kernel))))
   · have:=leftI_neg ‹_›
     ((first|refine fin_ret ?_|refine fin_end ?_);simp only [go_sem,↓upd_def,Nat.reduceEqDiff,Nat.reduceAdd,↓reduceIte,reduceCtorEq])
     exact K_int hK (by unfold leftI;split<;>omega)
   · have:=leftI_pos ‹_›
     refine s_again (k+1) ?_ ?_ ?_<;>(first|omega|(dsimp only;omega)|skip)
     · simp only [htk,wtL_append,wtL_one]
       omega
     · simp [fits,fitsT,fitsM,upd_def,PV.nmb,nmbL,MB.nmb,List.getD_cons_zero,List.getD_cons_succ,htk,wtL_append,wtL_one]
       rw [this.2]
       omega
 · have hk':k=xs.length:=by omega
   subst hk'
   repeat' (first|((first|apply qa1|apply qa2|apply qa3|apply qh1|apply qh2|apply qg1 rfl|apply qcd);(try intro K hk);focus (simp only [go_sem,Nat.reduceEqDiff,Nat.reduceAdd,Nat.reduceLeDiff,Nat.reduceLT,Nat.reduceSub,Int.reduceToNat,↓reduceIte,reduceCtorEq];first|exact rfl|((repeat refine ai ?_);intros;apply hk;clear hk K)))|apply qw8|apply qw1|apply qw6|apply qt1|apply qw5|apply qw2|apply qw9|apply qt2|apply qt3|apply qt4|apply qt5|apply qt6|apply qw3|apply qw4|apply qj1|apply qj2|apply qj3|apply qj4|apply qj5|apply qu1|apply qu2|(refine qj6 ?_ ?_<;>intro hc<;>(try simp only [hc])<;>(try simp only [decide_eq_true_eq,decide_eq_false_iff_not,Bool.not_eq_true',Bool.not_eq_false',Bool.not_eq_true,reduceCtorEq] at hc)<;>(try (exfalso;omega)))|(refine qt7 ?_ ?_;focus decide)|(refine qw7 ?_ ?_ ?_;(focus (decide +kernel));(focus (decide +kernel))))
   ((first|refine fin_ret ?_|refine fin_end ?_);simp only [go_sem,↓upd_def,Nat.reduceEqDiff,Nat.reduceAdd,↓reduceIte,reduceCtorEq])
   rw [List.take_length] at *
   exact K_int hK (by unfold leftI;split<;>omega)
end Go.Proofs.YtnbjogilidfkdaaGreat
