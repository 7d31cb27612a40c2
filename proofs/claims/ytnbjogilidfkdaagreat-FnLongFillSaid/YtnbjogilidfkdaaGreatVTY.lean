/- What the program's tables say of its types. -/
import Derived.Test.YtnbjogilidfkdaaGreatVF12
import Derived.Test.YtnbjogilidfkdaaGreatRows

namespace Go.Proofs.YtnbjogilidfkdaaGreat
set_option maxRecDepth 100000
set_option linter.unusedVariables false
set_option linter.unusedSimpArgs false
open Go.RowKit
theorem mixed:Tryz.prog.follows .mixedOrders=true:=by kernel_rfl
@[go_sem] theorem ty_ag3:aggOf Tryz.prog 3=some none:=by kernel_rfl
@[go_sem] theorem ty_ze3:zeroOf Tryz.prog 3=some [.int .i64 0]:=by kernel_rfl
@[go_sem] theorem ty_kd3:kindOf Tryz.prog 3=some (.inl .i64):=by kernel_rfl
@[go_sem] theorem ty_ag4:aggOf Tryz.prog 4=some none:=by kernel_rfl
@[go_sem] theorem ty_ze4:zeroOf Tryz.prog 4=some [.bool false]:=by kernel_rfl
@[go_sem] theorem ty_un4:Tryz.prog.underlying 4=some .bool:=by kernel_rfl
@[go_sem] theorem ty_ag5:aggOf Tryz.prog 5=some none:=by kernel_rfl
@[go_sem] theorem ty_ze5:zeroOf Tryz.prog 5=some [.int .u8 0]:=by kernel_rfl
@[go_sem] theorem ty_kd5:kindOf Tryz.prog 5=some (.inl .u8):=by kernel_rfl
@[go_sem] theorem ty_ag9:aggOf Tryz.prog 9=some none:=by kernel_rfl
@[go_sem] theorem ty_ze9:zeroOf Tryz.prog 9=some [.str []]:=by kernel_rfl
@[go_sem] theorem ty_kd9:kindOf Tryz.prog 9=some (.inr .str):=by kernel_rfl
@[go_sem] theorem ty_un9:Tryz.prog.underlying 9=some .string:=by kernel_rfl
@[go_sem] theorem ty_el22:elOf Tryz.prog 22=some (5,1,1):=by kernel_rfl
@[go_sem] theorem ty_ag22:aggOf Tryz.prog 22=some none:=by kernel_rfl
@[go_sem] theorem ty_kd22:kindOf Tryz.prog 22=some (.inr .bytes):=by kernel_rfl
@[go_sem] theorem ty_el23:elOf Tryz.prog 23=some (79,5,88):=by kernel_rfl
@[go_sem] theorem ty_ag23:aggOf Tryz.prog 23=some none:=by kernel_rfl
@[go_sem] theorem ty_el24:elOf Tryz.prog 24=some (46,4,64):=by kernel_rfl
@[go_sem] theorem ty_ag24:aggOf Tryz.prog 24=some none:=by kernel_rfl
@[go_sem] theorem ty_el29:elOf Tryz.prog 29=some (68,4,64):=by kernel_rfl
@[go_sem] theorem ty_ag29:aggOf Tryz.prog 29=some none:=by kernel_rfl
@[go_sem] theorem ty_el35:elOf Tryz.prog 35=some (75,5,88):=by kernel_rfl
@[go_sem] theorem ty_ag35:aggOf Tryz.prog 35=some none:=by kernel_rfl
@[go_sem] theorem ty_el36:elOf Tryz.prog 36=some (77,4,64):=by kernel_rfl
@[go_sem] theorem ty_ag36:aggOf Tryz.prog 36=some none:=by kernel_rfl
@[go_sem] theorem ty_el44:elOf Tryz.prog 44=some (9,1,16):=by kernel_rfl
@[go_sem] theorem ty_ag44:aggOf Tryz.prog 44=some none:=by kernel_rfl
@[go_sem] theorem ty_ag46:aggOf Tryz.prog 46=some (some 4):=by kernel_rfl
@[go_sem] theorem ty_ze46:zeroOf Tryz.prog 46=some [.str [],.str [],.bool false,.nil]:=by kernel_rfl
@[go_sem] theorem ty_pl46:plOf Tryz.prog 46=some [(0,1),(1,1),(2,1),(3,1)]:=by kernel_rfl
@[go_sem] theorem ty_fl46_0:fldOf Tryz.prog 46 0=some (0,true):=by kernel_rfl
@[go_sem] theorem ty_fl46_1:fldOf Tryz.prog 46 1=some (1,true):=by kernel_rfl
@[go_sem] theorem ty_fl46_2:fldOf Tryz.prog 46 2=some (2,true):=by kernel_rfl
@[go_sem] theorem ty_fl46_3:fldOf Tryz.prog 46 3=some (3,true):=by kernel_rfl
@[go_sem] theorem ty_ag48:aggOf Tryz.prog 48=some (some 4):=by kernel_rfl
@[go_sem] theorem ty_ze48:zeroOf Tryz.prog 48=some [.int .i64 0,.str [],.str [],.bool false]:=by kernel_rfl
@[go_sem] theorem ty_pl48:plOf Tryz.prog 48=some [(0,1),(1,1),(2,1),(3,1)]:=by kernel_rfl
@[go_sem] theorem ty_fl48_0:fldOf Tryz.prog 48 0=some (0,true):=by kernel_rfl
@[go_sem] theorem ty_fl48_1:fldOf Tryz.prog 48 1=some (1,true):=by kernel_rfl
@[go_sem] theorem ty_fl48_2:fldOf Tryz.prog 48 2=some (2,true):=by kernel_rfl
@[go_sem] theorem ty_fl48_3:fldOf Tryz.prog 48 3=some (3,true):=by kernel_rfl
@[go_sem] theorem ty_ek48:eksOf Tryz.prog 48=some [.i,.s,.s,.b]:=by kernel_rfl
@[go_sem] theorem ty_ze54:zeroOf Tryz.prog 54=some [.raw (.pointer none),.nil]:=by kernel_rfl
@[go_sem] theorem ty_bl54:bldT Tryz.prog 54=some 5:=by kernel_rfl
@[go_sem] theorem ty_el66:elOf Tryz.prog 66=some (72,2,32):=by kernel_rfl
@[go_sem] theorem ty_ag66:aggOf Tryz.prog 66=some none:=by kernel_rfl
@[go_sem] theorem ty_ag68:aggOf Tryz.prog 68=some (some 4):=by kernel_rfl
@[go_sem] theorem ty_ze68:zeroOf Tryz.prog 68=some [.int .i64 0,.str [],.str [],.nil]:=by kernel_rfl
@[go_sem] theorem ty_pl68:plOf Tryz.prog 68=some [(0,1),(1,1),(2,1),(3,1)]:=by kernel_rfl
@[go_sem] theorem ty_fl68_0:fldOf Tryz.prog 68 0=some (0,true):=by kernel_rfl
@[go_sem] theorem ty_fl68_1:fldOf Tryz.prog 68 1=some (1,true):=by kernel_rfl
@[go_sem] theorem ty_fl68_2:fldOf Tryz.prog 68 2=some (2,true):=by kernel_rfl
@[go_sem] theorem ty_fl68_3:fldOf Tryz.prog 68 3=some (3,true):=by kernel_rfl
@[go_sem] theorem ty_ag72:aggOf Tryz.prog 72=some (some 2):=by kernel_rfl
@[go_sem] theorem ty_ze72:zeroOf Tryz.prog 72=some [.str [],.str []]:=by kernel_rfl
@[go_sem] theorem ty_pl72:plOf Tryz.prog 72=some [(0,1),(1,1)]:=by kernel_rfl
@[go_sem] theorem ty_fl72_0:fldOf Tryz.prog 72 0=some (0,true):=by kernel_rfl
@[go_sem] theorem ty_fl72_1:fldOf Tryz.prog 72 1=some (1,true):=by kernel_rfl
@[go_sem] theorem ty_ek72:eksOf Tryz.prog 72=some [.s,.s]:=by kernel_rfl
@[go_sem] theorem ty_ag75:aggOf Tryz.prog 75=some (some 5):=by kernel_rfl
@[go_sem] theorem ty_ze75:zeroOf Tryz.prog 75=some [.int .i64 0,.str [],.str [],.nil,.nil]:=by kernel_rfl
@[go_sem] theorem ty_pl75:plOf Tryz.prog 75=some [(0,1),(1,1),(2,1),(3,1),(4,1)]:=by kernel_rfl
@[go_sem] theorem ty_fl75_0:fldOf Tryz.prog 75 0=some (0,true):=by kernel_rfl
@[go_sem] theorem ty_fl75_1:fldOf Tryz.prog 75 1=some (1,true):=by kernel_rfl
@[go_sem] theorem ty_fl75_2:fldOf Tryz.prog 75 2=some (2,true):=by kernel_rfl
@[go_sem] theorem ty_fl75_3:fldOf Tryz.prog 75 3=some (3,true):=by kernel_rfl
@[go_sem] theorem ty_fl75_4:fldOf Tryz.prog 75 4=some (4,true):=by kernel_rfl
@[go_sem] theorem ty_ag77:aggOf Tryz.prog 77=some (some 4):=by kernel_rfl
@[go_sem] theorem ty_ze77:zeroOf Tryz.prog 77=some [.str [],.str [],.bool false,.nil]:=by kernel_rfl
@[go_sem] theorem ty_pl77:plOf Tryz.prog 77=some [(0,1),(1,1),(2,1),(3,1)]:=by kernel_rfl
@[go_sem] theorem ty_fl77_0:fldOf Tryz.prog 77 0=some (0,true):=by kernel_rfl
@[go_sem] theorem ty_fl77_1:fldOf Tryz.prog 77 1=some (1,true):=by kernel_rfl
@[go_sem] theorem ty_fl77_2:fldOf Tryz.prog 77 2=some (2,true):=by kernel_rfl
@[go_sem] theorem ty_fl77_3:fldOf Tryz.prog 77 3=some (3,true):=by kernel_rfl
@[go_sem] theorem ty_ag79:aggOf Tryz.prog 79=some (some 5):=by kernel_rfl
@[go_sem] theorem ty_ze79:zeroOf Tryz.prog 79=some [.int .i64 0,.str [],.str [],.nil,.nil]:=by kernel_rfl
@[go_sem] theorem ty_pl79:plOf Tryz.prog 79=some [(0,1),(1,1),(2,1),(3,1),(4,1)]:=by kernel_rfl
@[go_sem] theorem ty_fl79_0:fldOf Tryz.prog 79 0=some (0,true):=by kernel_rfl
@[go_sem] theorem ty_fl79_1:fldOf Tryz.prog 79 1=some (1,true):=by kernel_rfl
@[go_sem] theorem ty_fl79_2:fldOf Tryz.prog 79 2=some (2,true):=by kernel_rfl
@[go_sem] theorem ty_fl79_3:fldOf Tryz.prog 79 3=some (3,true):=by kernel_rfl
@[go_sem] theorem ty_fl79_4:fldOf Tryz.prog 79 4=some (4,true):=by kernel_rfl
@[go_sem] theorem ty_ag108:aggOf Tryz.prog 108=some (some 2):=by kernel_rfl
@[go_sem] theorem ty_ze108:zeroOf Tryz.prog 108=some [.nil,.int .i64 0]:=by kernel_rfl
@[go_sem] theorem ty_pl108:plOf Tryz.prog 108=some [(0,1),(1,1)]:=by kernel_rfl
@[go_sem] theorem ty_fl108_0:fldOf Tryz.prog 108 0=some (0,true):=by kernel_rfl
@[go_sem] theorem ty_fl108_1:fldOf Tryz.prog 108 1=some (1,true):=by kernel_rfl
end Go.Proofs.YtnbjogilidfkdaaGreat

/- Texts: the program's and the reference's small functions on them. -/
namespace Go.Proofs.YtnbjogilidfkdaaGreat
attribute [local irreducible] awp arun acalm FinP Fin AX.then AX.inBlock Again aG gsel amix amixN amixC aop aopc aopd cutK
attribute [local go_sem] aBSliceD aSlice aSliceC boundOf aMk aCall aCallC aLenL aLen aPick_t aPick_f aNil aAlloc aBox aBuild bldPV aBSlice bsPV aApp newsOf destOf drp aConvX aConv aConvInt aLoad cellsAt aStore cellsPV setAt aFld aField aIdx aIndex aUn aBin' aBin aMax aExtract pvOf PV.isCell nmbL PV.nmb List.map_cons List.map_nil List.all_cons List.all_nil Bool.and_true Bool.true_and if_true if_false List.getD_cons_zero List.getD_cons_succ List.getD_nil Option.isSome_some true_and and_true and_self eq_self true_or or_true List.drop_zero List.drop_succ_cons List.drop_nil List.take_zero List.take_succ_cons List.take_nil List.length_cons List.length_nil List.length_map Option.getD_some Option.getD_none List.nil_append List.cons_append List.append_nil Option.some.injEq exists_eq_left' List.getElem?_cons_zero List.getElem?_cons_succ Int.toNat_natCast Int.natCast_inj toNat_succ Nat.zero_add res res1 resC owns owns1 ownsC List.flatMap_cons List.flatMap_nil List.flatten_cons List.flatten_nil List.mem_cons List.not_mem_nil or_false false_or forall_eq forall_eq_or_imp isFro frz frz1 pureC tabA isBld List.cons.injEq PV.seq.injEq PV.int.injEq PV.str.injEq PV.bool.injEq PV.agg.injEq inR tab Γof aRes packR Option.map_some Option.map_none rel Prod.exists exists_and_left exists_eq_left and_assoc beq_self_eq_true Bool.not_true Bool.not_false decide_true decide_false List.set_cons_zero List.set_cons_succ rst_nil rst_cons
attribute [local go_sem ↓] evT upd_def aop aopc aopd
set_option maxRecDepth 100000
set_option linter.unusedVariables false
set_option linter.unusedSimpArgs false
open Go.RowKit
def allB (p:Nat→Bool) (s:List UInt8):Bool:=s.all fun b=>p b.toNat
theorem allB_snoc {p:Nat→Bool} {s:List UInt8} {k:Nat} (h:k<s.length):allB p (s.take (k+1))=(allB p (s.take k) && p (s.getD k 0).toNat):=by
 unfold allB
 rw [List.take_succ_eq_append_getElem h,List.all_append]
 simp [List.getD_eq_getElem?_getD,List.getElem?_eq_getElem h]
theorem allB_f {p:Nat→Bool} {s:List UInt8} {k:Nat} (h:k<s.length) (hp:p (s.getD k 0).toNat=false):allB p s=false:=by
 unfold allB
 rw [List.all_eq_false]
 refine ⟨s[k],List.getElem_mem h,?_⟩
 simp [List.getD_eq_getElem?_getD,List.getElem?_eq_getElem h] at hp
 simp [hp]
def okByte (x:Nat):Bool:=decide (32≤x) && decide (x≤126)
/-- At most 600 bytes, each in 32..126. -/
def textB (s:List UInt8):Bool:=decide (s.length≤600) && allB okByte s
theorem byte_lt (s:List UInt8) (k:Nat):(s.getD k 0).toNat<256:=(s.getD k 0).toNat_lt
@[go_sem] def strC (f:List UInt8→Bool):PC:=rel (α:=List UInt8) (fun s=>[.str s]) (fun s=>s.length≤9223372036854775807) (fun s=> .bool (f s))
set_option maxHeartbeats 4000000 in
theorem text_i:PureOk Tryz.prog 11 (strC textB):=by
 refine pure_rel 1 tab_nil mixed [.tmp 2] Tryz.func11 rfl rfl (by kernel_rfl) (by kernel_rfl) (fun _=>rfl) (by kernel_rfl) ?_
 rintro s K hl hK
 unfold entry
 repeat' (first|((first|apply qa1|apply qcd);(try intro K hk);focus (simp only [go_sem,↓reduceIte,reduceCtorEq];first|exact rfl|((repeat refine ai ?_);intros;apply hk;clear hk K)))|apply qw8|apply qw1|apply qw6|apply qt1|apply qw5|apply qw2|apply qt3|apply qw4|apply qj1|apply qj4|(refine qj6 ?_ ?_<;>intro hc<;>(try simp only [hc])<;>(try simp only [decide_eq_true_eq,decide_eq_false_iff_not] at hc)<;>(try (exfalso;omega))))
 · ((first|refine fin_ret ?_|refine fin_end ?_);simp only [go_sem,↓upd_def,↓reduceIte])
   exact K_bool hK (by unfold textB;rw [decide_eq_false (by omega)];rfl)
 refine s_loop (ι:=Nat) (fun k=>[(0,.str s),(2,.bool false),(3,.int .i64 k)]) (fun _=>[]) 0 (fun k=>k≤s.length∧allB okByte (s.take k)=true) (fun k=>s.length - k) 0 (by omega) ⟨by omega,by simp [allB]⟩ ?_ ?_
 · simp [fits,fitsT,fitsM,upd_def,PV.nmb]
 rintro k ⟨hk,hp⟩
 have hb:=byte_lt s k
 simp only [mkS,mkT,mkM]
 repeat' (first|((first|apply qa1|apply qh1|apply qg1 rfl|apply qcd);(try intro K hk);focus (simp only [go_sem,Nat.reduceEqDiff,↓reduceIte,reduceCtorEq];first|exact rfl|((repeat refine ai ?_);intros;apply hk;clear hk K)))|apply qw8|apply qw1|apply qw6|apply qt1|apply qw5|apply qw2|apply qt2|apply qt3|apply qt4|apply qt5|apply qt6|apply qw3|apply qw4|apply qj1|apply qj2|apply qj3|apply qj4|apply qu1|(refine qj6 ?_ ?_<;>intro hc<;>(try simp only [hc])<;>(try simp only [decide_eq_true_eq,decide_eq_false_iff_not] at hc)<;>(try (exfalso;omega))))
 · ((first|refine fin_ret ?_|refine fin_end ?_);simp only [go_sem,↓upd_def,↓reduceIte])
   exact K_bool hK (by unfold textB;rw [allB_f (k:=k) (by omega) (by unfold okByte;rw [decide_eq_false (by omega)];rfl),Bool.and_false])
 · ((first|refine fin_ret ?_|refine fin_end ?_);simp only [go_sem,↓upd_def,↓reduceIte])
   exact K_bool hK (by unfold textB;rw [allB_f (k:=k) (by omega) (by unfold okByte;rw [decide_eq_false (p:=_≤126) (by omega),Bool.and_false]),Bool.and_false])
 · refine s_again (k+1) ?_ ?_ ?_<;>(first|omega|(dsimp only;omega)|skip)
   · exact ⟨by omega,by rw [allB_snoc (by omega),hp];unfold okByte;rw [decide_eq_true (by omega),decide_eq_true (by omega)];rfl⟩
   · simp [fits,fitsT,fitsM,upd_def,PV.nmb]
 · ((first|refine fin_ret ?_|refine fin_end ?_);simp only [go_sem,↓upd_def,↓reduceIte])
   rw [List.take_of_length_le (by omega)] at hp
   exact K_bool hK (by unfold textB;rw [hp,decide_eq_true (by omega)];rfl)
set_option maxHeartbeats 4000000 in
theorem text_s:PureOk Tryz.prog 107 (strC textB):=by
 refine pure_rel 1 tab_nil mixed [.tmp 2] Tryz.func107 rfl rfl (by kernel_rfl) (by kernel_rfl) (fun _=>rfl) (by kernel_rfl) ?_
 rintro s K hl hK
 unfold entry
 repeat' (first|((first|apply qa1);(try intro K hk);focus (simp only [go_sem];first|exact rfl|((repeat refine ai ?_);intros;apply hk;clear hk K)))|apply qw8|apply qw1|apply qw6|apply qt1|apply qw5)
 refine s_loop (ι:=Nat) (fun k=>[(0,.str s),(2,.bool false),(3,.int .i64 k)]) (fun _=>[]) 0 (fun k=>k≤s.length∧allB okByte (s.take k)=true) (fun k=>s.length - k) 0 (by omega) ⟨by omega,by simp [allB]⟩ ?_ ?_
 · simp [fits,fitsT,fitsM,upd_def,PV.nmb]
 rintro k ⟨hk,hp⟩
 have hb:=byte_lt s k
 simp only [mkS,mkT,mkM]
 repeat' (first|((first|apply qa1|apply qh1|apply qg1 rfl|apply qcd);(try intro K hk);focus (simp only [go_sem,Nat.reduceEqDiff,↓reduceIte,reduceCtorEq];first|exact rfl|((repeat refine ai ?_);intros;apply hk;clear hk K)))|apply qw8|apply qw1|apply qw6|apply qt1|apply qw5|apply qw2|apply qt2|apply qt3|apply qt4|apply qt5|apply qt6|apply qw3|apply qw4|apply qj1|apply qj2|apply qj3|apply qj4|apply qu1|(refine qj6 ?_ ?_<;>intro hc<;>(try simp only [hc])<;>(try simp only [decide_eq_true_eq,decide_eq_false_iff_not] at hc)<;>(try (exfalso;omega))))
 · ((first|refine fin_ret ?_|refine fin_end ?_);simp only [go_sem,↓upd_def,↓reduceIte])
   exact K_bool hK (by unfold textB;rw [allB_f (k:=k) (by omega) (by unfold okByte;rw [decide_eq_false (by omega)];rfl),Bool.and_false])
 · ((first|refine fin_ret ?_|refine fin_end ?_);simp only [go_sem,↓upd_def,↓reduceIte])
   exact K_bool hK (by unfold textB;rw [allB_f (k:=k) (by omega) (by unfold okByte;rw [decide_eq_false (p:=_≤126) (by omega),Bool.and_false]),Bool.and_false])
 · refine s_again (k+1) ?_ ?_ ?_<;>(first|omega|(dsimp only;omega)|skip)
   · exact ⟨by omega,by rw [allB_snoc (by omega),hp];unfold okByte;rw [decide_eq_true (by omega),decide_eq_true (by omega)];rfl⟩
   · simp [fits,fitsT,fitsM,upd_def,PV.nmb]
 · ((first|refine fin_ret ?_|refine fin_end ?_);simp only [go_sem,↓upd_def,↓reduceIte])
   rw [List.take_of_length_le (by omega)] at hp
   exact K_bool hK (by unfold textB;rw [hp,Bool.and_true];congr 1;simp only [eq_iff_iff];omega)
#print axioms text_s
end Go.Proofs.YtnbjogilidfkdaaGreat

/- Names: the program's and the reference's small functions on them. -/
namespace Go.Proofs.YtnbjogilidfkdaaGreat
attribute [local irreducible] awp arun acalm FinP Fin AX.then AX.inBlock Again aG gsel amix amixN amixC aop aopc aopd cutK
attribute [local go_sem] aBSliceD aSlice aSliceC boundOf aMk aCall aCallC aLenL aLen aPick_t aPick_f aNil aAlloc aBox aBuild bldPV aBSlice bsPV aApp newsOf destOf drp aConvX aConv aConvInt aLoad cellsAt aStore cellsPV setAt aFld aField aIdx aIndex aUn aBin' aBin aMax aExtract pvOf PV.isCell nmbL PV.nmb List.map_cons List.map_nil List.all_cons List.all_nil Bool.and_true Bool.true_and if_true if_false List.getD_cons_zero List.getD_cons_succ List.getD_nil Option.isSome_some true_and and_true and_self eq_self true_or or_true List.drop_zero List.drop_succ_cons List.drop_nil List.take_zero List.take_succ_cons List.take_nil List.length_cons List.length_nil List.length_map Option.getD_some Option.getD_none List.nil_append List.cons_append List.append_nil Option.some.injEq exists_eq_left' List.getElem?_cons_zero List.getElem?_cons_succ Int.toNat_natCast Int.natCast_inj toNat_succ Nat.zero_add res res1 resC owns owns1 ownsC List.flatMap_cons List.flatMap_nil List.flatten_cons List.flatten_nil List.mem_cons List.not_mem_nil or_false false_or forall_eq forall_eq_or_imp isFro frz frz1 pureC tabA isBld List.cons.injEq PV.seq.injEq PV.int.injEq PV.str.injEq PV.bool.injEq PV.agg.injEq inR tab Γof aRes packR Option.map_some Option.map_none rel Prod.exists exists_and_left exists_eq_left and_assoc beq_self_eq_true Bool.not_true Bool.not_false decide_true decide_false List.set_cons_zero List.set_cons_succ rst_nil rst_cons
attribute [local go_sem ↓] evT upd_def aop aopc aopd
set_option maxRecDepth 100000
set_option linter.unusedVariables false
set_option linter.unusedSimpArgs false
open Go.RowKit
def digI (x:Int):Bool:=decide (48≤x∧x≤57)
def digC:PC:=rel (α:=Int) (fun x=>[.int .u8 x]) (fun x=>0≤x∧x<256) (fun x=> .bool (digI x))
theorem digI_t {x:Int}:digI x=true↔48≤x∧x≤57:=by unfold digI;simp
theorem digI_f {x:Int}:digI x=false↔ ¬ (48≤x∧x≤57):=by unfold digI;rw [decide_eq_false_iff_not]
set_option maxHeartbeats 4000000 in
theorem dig_i:PureOk Tryz.prog 78 digC:=by
 refine pure_rel 1 tab_nil mixed [.tmp 2] Tryz.func78 rfl rfl (by kernel_rfl) (by kernel_rfl) (fun _=>rfl) (by kernel_rfl) ?_
 rintro x K ⟨h0,h1⟩ hK
 unfold entry
 repeat' (first|((first|apply qa1|apply qh1|apply qg1 rfl);(try intro K hk);focus (simp only [go_sem,Nat.reduceEqDiff,↓reduceIte,reduceCtorEq];first|exact rfl|((repeat refine ai ?_);intros;apply hk;clear hk K)))|apply qw8|apply qw1|apply qw6|apply qt1|apply qw4|apply qj1|apply qj4|apply qu1|(refine qj6 ?_ ?_<;>intro hc<;>(try simp only [hc])<;>(try simp only [decide_eq_true_eq,decide_eq_false_iff_not] at hc)<;>(try (exfalso;omega))))
 all_goals
  ((first|refine fin_ret ?_|refine fin_end ?_);simp only [go_sem,↓upd_def,↓reduceIte])
  exact K_bool hK (by first|exact digI_t.2 (by omega)|exact digI_f.2 (by omega)|(unfold digI;congr 1;simp only [eq_iff_iff];omega))
set_option maxHeartbeats 4000000 in
theorem dig_s:PureOk Tryz.prog 105 digC:=by
 refine pure_rel 1 tab_nil mixed [.tmp 2] Tryz.func105 rfl rfl (by kernel_rfl) (by kernel_rfl) (fun _=>rfl) (by kernel_rfl) ?_
 rintro x K ⟨h0,h1⟩ hK
 unfold entry
 repeat' (first|((first|apply qa1|apply qh1|apply qg1 rfl);(try intro K hk);focus (simp only [go_sem,Nat.reduceEqDiff,↓reduceIte,reduceCtorEq];first|exact rfl|((repeat refine ai ?_);intros;apply hk;clear hk K)))|apply qw8|apply qw1|apply qw6|apply qt1|apply qw4|apply qj1|apply qj4|apply qu1|(refine qj6 ?_ ?_<;>intro hc<;>(try simp only [hc])<;>(try simp only [decide_eq_true_eq,decide_eq_false_iff_not] at hc)<;>(try (exfalso;omega))))
 all_goals
  ((first|refine fin_ret ?_|refine fin_end ?_);simp only [go_sem,↓upd_def,↓reduceIte])
  exact K_bool hK (by first|exact digI_t.2 (by omega)|exact digI_f.2 (by omega)|(unfold digI;congr 1;simp only [eq_iff_iff];omega))
def okNm (x:Nat):Bool:=decide ((97≤x∧x≤122)∨(48≤x∧x≤57)∨x=45)
/-- 1..10 bytes, the first one a small letter, the others small letters, digits, minus signs. -/
def nameB (s:List UInt8):Bool:=decide (1≤s.length∧s.length≤10∧97≤(s.getD 0 0).toNat∧(s.getD 0 0).toNat≤122) && allB okNm s
theorem okNm_t {x:Nat} (h:(97≤x∧x≤122)∨(48≤x∧x≤57)∨x=45):okNm x=true:=decide_eq_true h
theorem okNm_f {x:Nat} (h: ¬ ((97≤x∧x≤122)∨(48≤x∧x≤57)∨x=45)):okNm x=false:=decide_eq_false h
set_option maxHeartbeats 8000000 in
theorem name_i:PureOk Tryz.prog 54 (strC nameB):=by
 refine pure_rel 1 (tab_cons dig_i tab_nil) mixed [.tmp 2] Tryz.func54 rfl rfl (by kernel_rfl) (by kernel_rfl) (fun _=>rfl) (by kernel_rfl) ?_
 rintro s K hl hK
 unfold entry
 repeat' (first|((first|apply qa1|apply qh1|apply qg1 rfl|apply qcd);(try intro K hk);focus (simp only [go_sem,Nat.reduceEqDiff,Int.reduceToNat,↓reduceIte,reduceCtorEq];first|exact rfl|((repeat refine ai ?_);intros;apply hk;clear hk K)))|apply qw8|apply qw1|apply qw6|apply qt1|apply qw5|apply qw2|apply qt3|apply qw4|apply qj1|apply qj2|apply qj3|apply qj4|apply qu1|(refine qj6 ?_ ?_<;>intro hc<;>(try simp only [hc])<;>(try simp only [decide_eq_true_eq,decide_eq_false_iff_not] at hc)<;>(try (exfalso;omega))))
 all_goals (first
  | (((first|refine fin_ret ?_|refine fin_end ?_);simp only [go_sem,↓upd_def,↓reduceIte])
     exact K_bool hK (by unfold nameB;rw [decide_eq_false (by omega)];rfl))
  | skip)
 refine s_loop (ι:=Nat) (fun k=>[(0,.str s),(2,.bool false),(3,.int .i64 k)]) (fun _=>[]) 0 (fun k=>k≤s.length∧allB okNm (s.take k)=true) (fun k=>s.length - k) 0 (by omega) ⟨by omega,by simp [allB]⟩ ?_ ?_
 · simp [fits,fitsT,fitsM,upd_def,PV.nmb]
 rintro k ⟨hk,hp⟩
 have hb:=byte_lt s k
 simp only [mkS,mkT,mkM]
 repeat' (first|((first|apply qa1|apply qh1|apply qg1 rfl|apply qcd);(try intro K hk);focus (simp only [go_sem,Nat.reduceEqDiff,↓reduceIte,reduceCtorEq,digC];first|exact rfl|((repeat refine ai ?_);intros;apply hk;clear hk K)))|apply qw8|apply qw1|apply qw6|apply qt1|apply qw5|apply qw2|apply qt2|apply qt3|apply qt4|apply qt5|apply qt6|apply qw3|apply qw4|apply qj1|apply qj2|apply qj3|apply qj4|apply qu1|(refine qj6 ?_ ?_<;>intro hc<;>(try simp only [hc])<;>(try simp only [decide_eq_true_eq,decide_eq_false_iff_not,Bool.not_eq_true',Bool.not_eq_false'] at hc)<;>(try (exfalso;omega))))
 all_goals (try have d1:=digI_t.1 ‹_›)
 all_goals (try have d2:=digI_f.1 ‹_›)
 all_goals first
  | (exfalso;omega)
  | (refine s_again (k+1) ?_ ?_ ?_<;>(first|omega|(dsimp only;omega)|skip)
     · exact ⟨by omega,by rw [allB_snoc (by omega),hp,okNm_t (x:=(s.getD k 0).toNat) (by omega)];try rfl⟩
     · simp [fits,fitsT,fitsM,upd_def,PV.nmb]
     done)
  | (((first|refine fin_ret ?_|refine fin_end ?_);simp only [go_sem,↓upd_def,↓reduceIte])
     exact K_bool hK (by unfold nameB;rw [allB_f (k:=k) (by omega) (okNm_f (x:=(s.getD k 0).toNat) (by omega)),Bool.and_false]))
  | (((first|refine fin_ret ?_|refine fin_end ?_);simp only [go_sem,↓upd_def,↓reduceIte])
     rw [List.take_of_length_le (by omega)] at hp
     exact K_bool hK (by unfold nameB;rw [hp,decide_eq_true (by omega)];rfl))
end Go.Proofs.YtnbjogilidfkdaaGreat
