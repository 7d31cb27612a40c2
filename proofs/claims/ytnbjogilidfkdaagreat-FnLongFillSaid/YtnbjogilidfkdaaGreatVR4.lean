/- Contracts: drawn templates. -/
import Derived.Test.YtnbjogilidfkdaaGreatVX8

namespace Go.Proofs.YtnbjogilidfkdaaGreat
attribute [local irreducible] awp arun acalm FinP Fin AX.then AX.inBlock Again aG gsel amix amixN amixC aop aopc aopd cutK
attribute [local go_sem] aBSliceD aSlice aSliceC boundOf aMk aCall aCallC aLenL aLen aPick_t aPick_f aNil aAlloc aBox aBuild bldPV aBSlice bsPV aApp newsOf destOf drp aConvX aConv aConvInt aLoad cellsAt aStore cellsPV setAt aFld aField aIdx aIndex aUn aBin' aBin aMax aExtract pvOf PV.isCell nmbL PV.nmb List.map_cons List.map_nil List.all_cons List.all_nil Bool.and_true Bool.true_and if_true if_false List.getD_cons_zero List.getD_cons_succ List.getD_nil Option.isSome_some true_and and_true and_self eq_self true_or or_true List.drop_zero List.drop_succ_cons List.drop_nil List.take_zero List.take_succ_cons List.take_nil List.length_cons List.length_nil List.length_map Option.getD_some Option.getD_none List.nil_append List.cons_append List.append_nil Option.some.injEq exists_eq_left' List.getElem?_cons_zero List.getElem?_cons_succ Int.toNat_natCast Int.natCast_inj toNat_succ Nat.zero_add res res1 resC owns owns1 ownsC List.flatMap_cons List.flatMap_nil List.flatten_cons List.flatten_nil List.mem_cons List.not_mem_nil or_false false_or forall_eq forall_eq_or_imp isFro frz frz1 pureC tabA isBld List.cons.injEq PV.seq.injEq PV.int.injEq PV.str.injEq PV.bool.injEq PV.agg.injEq inR tab Γof aRes packR Option.map_some Option.map_none rel Prod.exists exists_and_left exists_eq_left and_assoc beq_self_eq_true Bool.not_true Bool.not_false decide_true decide_false List.set_cons_zero List.set_cons_succ rst_nil rst_cons
attribute [local go_sem ↓] evT upd_def aop aopc aopd
set_option maxRecDepth 100000
set_option linter.unusedVariables false
set_option linter.unusedSimpArgs false
open Go.RowKit
def lvR4_50:Nat→List Nat
 | 0=>[0,1]
 | 1=>[0,1,5]
 | 2=>[0,5,10]
 | 3=>[0,5,12]
 | 4=>[5]
 | 5=>[0,5,12,20]
 | 6=>[5]
 | 7=>[0,5,12,24]
 | 8=>[5]
 | 9=>[5]
 | 10=>[0,5,12,33]
 | 11=>[5]
 | 12=>[5]
 | 13=>[0,5,12,42]
 | 14=>[5]
 | 15=>[0,5,12,52]
 | 16=>[5]
 | 17=>[0,5,12,60]
 | 18=>[5]
 | 19=>[0,5,12,66]
 | 20=>[5]
 | 21=>[5,77]
 | 22=>[5]
 | 23=>[4]
 | _=>[]
--LV=R4
theorem encPs_two (a b:PartD):encPs [a,b]=[encP a,encP b]:=by simp [encPs]
theorem wtL_two (a b:PartD):wtL [a,b]=1+wtP a+(1+wtP b):=by simp [wtL,Nat.add_assoc]
@[go_sem] def tplC0 (w:Nat) (q:Int):AC:=locO 79 5 (α:=(Bs×Int)×Int) (fun x=>[.int .i64 x.2]) (fun x=>rdB x.1.1 x.1.2) (fun x=>x.1.1.length≤2000∧0≤x.1.2∧x.1.2+q≤1000000∧0≤x.2∧x.2≤1000) (fun x es b'=> ∃ xs p',es=encPs xs∧b'=rdB x.1.1 p'∧wtL xs≤w∧x.1.2≤p'∧p'≤x.1.2+q)
@[go_sem] def tplC (w:Nat) (q:Int):AC:=fun args mem n K=>match args with
 | [.ref i o,.int .i64 m]=>0≤m∧m≤1000∧(match mem i with
   | some (.box [.seq es,.int .i64 p])=>o=0∧(∃ l:Bs,es=l.map bc∧l.length≤2000)∧0≤p∧p+q≤1000000∧ ∀ (xs:List PartD) (p':Int),wtL xs≤w→xs.length≤w→p≤p'→p'≤p+q→K (.own n) (upd (upd mem i (some (.box [.seq es,.int .i64 p']))) n (some (.row 79 5 (encPs xs)))) (n+1)
   | _=>False)
 | _=>False
theorem tpl_of {f:FuncId} {w:Nat} {q:Int} (hp:ACok Tryz.prog f (tplC0 w q)):ACok Tryz.prog f (tplC w q):=hp.mono fun args mem n K h=>by
 clear hp
 unfold tplC at h
 split at h
 · rename_i i o m
   obtain ⟨hm0,hm1,h⟩:=h
   split at h
   · rename_i es p hm
     obtain ⟨rfl,⟨l,rfl,hl⟩,h0,h1,hK⟩:=h
     refine ⟨((l,p),m),i,rfl,⟨hl,h0,h1,hm0,hm1⟩,hm,?_⟩
     rintro es b' ⟨xs,p',rfl,rfl,h1,h2,h3⟩
     exact hK xs p' h1 (Nat.le_trans (len_le_wtL xs) h1) h2 h3
   · exact h.elim
 · exact h.elim
set_option maxHeartbeats 16000000 in
theorem tpl_ok0:ACok Tryz.prog 50 (tplC0 5000 1000):=by
 refine locO_ok 2 (tabA_cons pick_ok (tabA_cons odd_ok (tabA_cons add_ok (tabA_cons prt2' (tabA_nil (Γof_ok tab_nil)))))) tab_nil mixed [.tmp 4] Tryz.func50 rfl rfl (by kernel_rfl) (by kernel_rfl) (fun _=>rfl) (by kernel_rfl) (fun x=>by simp [nmbL,PV.nmb]) (fun x=>by simp [go_sem,MB.nmb,nmbL,PV.nmb]) ?_
 rintro ⟨⟨l,p⟩,m⟩ K ⟨hl,h0,h1,h2,h3⟩ hK
 dsimp only at *
 unfold entry
 simp only [mkM,rdB] at *
 repeat' (first|((first|apply qwd|apply qa1|apply qcd);(try intro K hk);focus (simp only [lvR4_50,mkT,go_sem,Nat.reduceEqDiff,Nat.reduceAdd,Nat.reduceLeDiff,Nat.reduceLT,↓reduceIte,reduceCtorEq,exl,enc_snoc0,encPs_iff,wtL_append,wtL_one,wtP_mk,wtL_nil];first|exact rfl|((repeat refine ai ?_);intros;apply hk;clear hk K)))|apply qw1|refine qwc lvR4_50 ?_|apply qt1|apply qw5|apply qw2|apply qt4|apply qw4|apply qj1|apply qj4|(refine qj6 ?_ ?_<;>intro hc<;>(try simp only [hc])<;>(try simp only [decide_eq_true_eq,decide_eq_false_iff_not] at hc)<;>(try (exfalso;omega))))
 · rename List PartD=>y9
   ((first|refine fin_V ?_|refine fin_Ve ?_|refine fin_O ?_|refine fin_Oe ?_|refine fin_X ?_|refine fin_Xe ?_|refine fin_B ?_|refine fin_Be ?_);simp only [go_sem,PV.own.injEq,MB.row.injEq,MB.nmb,not_false_eq_true,ne_eq,↓upd_def,↓reduceIte,reduceCtorEq])
   exact hK _ _ ⟨y9,_,by simp,rfl,by (try simp only [wtL_append,wtL_one,wtP_mk,wtL_nil,wtL_two,List.length_nil,List.length_cons]);omega,by omega,by omega⟩
 · rename List PartD=>y9
   ((first|refine fin_V ?_|refine fin_Ve ?_|refine fin_O ?_|refine fin_Oe ?_|refine fin_X ?_|refine fin_Xe ?_|refine fin_B ?_|refine fin_Be ?_);simp only [go_sem,PV.own.injEq,MB.row.injEq,MB.nmb,not_false_eq_true,ne_eq,↓upd_def,↓reduceIte,reduceCtorEq])
   exact hK _ _ ⟨y9,_,by simp,rfl,by (try simp only [wtL_append,wtL_one,wtP_mk,wtL_nil,wtL_two,List.length_nil,List.length_cons]);omega,by omega,by omega⟩
 · rename List PartD=>y9
   ((first|refine fin_V ?_|refine fin_Ve ?_|refine fin_O ?_|refine fin_Oe ?_|refine fin_X ?_|refine fin_Xe ?_|refine fin_B ?_|refine fin_Be ?_);simp only [go_sem,PV.own.injEq,MB.row.injEq,MB.nmb,not_false_eq_true,ne_eq,↓upd_def,↓reduceIte,reduceCtorEq])
   exact hK _ _ ⟨y9,_,by simp,rfl,by (try simp only [wtL_append,wtL_one,wtP_mk,wtL_nil,wtL_two,List.length_nil,List.length_cons]);omega,by omega,by omega⟩
 · rename List PartD=>y9
   ((first|refine fin_V ?_|refine fin_Ve ?_|refine fin_O ?_|refine fin_Oe ?_|refine fin_X ?_|refine fin_Xe ?_|refine fin_B ?_|refine fin_Be ?_);simp only [go_sem,PV.own.injEq,MB.row.injEq,MB.nmb,not_false_eq_true,ne_eq,↓upd_def,↓reduceIte,reduceCtorEq])
   exact hK _ _ ⟨y9++[.mk 3 [] [102,108,97,103] [.mk 1 [60,97,32,116,105,116,108,101,61,34] [] [] []] [.mk 1 [60,98,32,116,105,116,108,101,61,34] [] [] []]],_,by simp [encPs_append,encPs_one,encP_mk,encPs_nil],rfl,by (try simp only [wtL_append,wtL_one,wtP_mk,wtL_nil,List.length_nil,List.length_cons]);omega,by omega,by omega⟩
 · rename List PartD=>y9
   ((first|refine fin_V ?_|refine fin_Ve ?_|refine fin_O ?_|refine fin_Oe ?_|refine fin_X ?_|refine fin_Xe ?_|refine fin_B ?_|refine fin_Be ?_);simp only [go_sem,PV.own.injEq,MB.row.injEq,MB.nmb,not_false_eq_true,ne_eq,↓upd_def,↓reduceIte,reduceCtorEq])
   exact hK _ _ ⟨y9++[.mk 4 [] [108,105,115,116] [.mk 1 [60,97,32,116,105,116,108,101,61,34] [] [] []] []],_,by simp [encPs_append,encPs_one,encP_mk,encPs_nil],rfl,by (try simp only [wtL_append,wtL_one,wtP_mk,wtL_nil,List.length_nil,List.length_cons]);omega,by omega,by omega⟩
 · rename List PartD=>y9
   ((first|refine fin_V ?_|refine fin_Ve ?_|refine fin_O ?_|refine fin_Oe ?_|refine fin_X ?_|refine fin_Xe ?_|refine fin_B ?_|refine fin_Be ?_);simp only [go_sem,PV.own.injEq,MB.row.injEq,MB.nmb,not_false_eq_true,ne_eq,↓upd_def,↓reduceIte,reduceCtorEq])
   exact hK _ _ ⟨y9++[.mk 1 [97,123,123,98] [] [] []],_,by simp [encPs_append,encPs_one,encP_mk,encPs_nil],rfl,by (try simp only [wtL_append,wtL_one,wtP_mk,wtL_nil,List.length_nil,List.length_cons]);omega,by omega,by omega⟩
 · (refine qa1 fun K hk=>?_;apply qload 3;(focus (simp only [go_sem,↓upd_def,↓evT,↓reduceIte];exact rfl));(focus (simp only [go_sem,↓upd_def,↓reduceIte,reduceCtorEq];exact rfl));(focus (simp only [go_sem]));(focus (simp only [List.length_cons,List.length_nil];omega));(focus kernel_rfl);intro tx htx;apply hk;clear hk K)
   repeat' (first|((first|apply qwd|apply qa1);(try intro K hk);focus (simp only [lvR4_50,mkT,go_sem,Nat.reduceEqDiff,Nat.reduceAdd,Nat.reduceLeDiff,Nat.reduceLT,↓reduceIte,reduceCtorEq];first|exact rfl|((repeat refine ai ?_);intros;apply hk;clear hk K)))|apply qw1|refine qwc lvR4_50 ?_|apply qt1|apply qt4|apply qw4)
   rename List PartD=>y9
   ((first|refine fin_V ?_|refine fin_Ve ?_|refine fin_O ?_|refine fin_Oe ?_|refine fin_X ?_|refine fin_Xe ?_|refine fin_B ?_|refine fin_Be ?_);simp only [go_sem,PV.own.injEq,MB.row.injEq,MB.nmb,not_false_eq_true,ne_eq,↓upd_def,↓reduceIte,reduceCtorEq])
   exact hK _ _ ⟨y9++[.mk 2 [] tx [] []],_,by simp [encPs_append,encPs_one,encP_mk,encPs_nil],rfl,by (try simp only [wtL_append,wtL_one,wtP_mk,wtL_nil,List.length_nil]);omega,by omega,by omega⟩
 · rename List PartD=>y9
   ((first|refine fin_V ?_|refine fin_Ve ?_|refine fin_O ?_|refine fin_Oe ?_|refine fin_X ?_|refine fin_Xe ?_|refine fin_B ?_|refine fin_Be ?_);simp only [go_sem,PV.own.injEq,MB.row.injEq,MB.nmb,not_false_eq_true,ne_eq,↓upd_def,↓reduceIte,reduceCtorEq])
   exact hK _ _ ⟨y9++[.mk 5 [] [] [] []],_,by simp [encPs_append,encPs_one,encP_mk,encPs_nil],rfl,by (try simp only [wtL_append,wtL_one,wtP_mk,wtL_nil,List.length_nil]);omega,by omega,by omega⟩
 · rename List PartD=>y9
   ((first|refine fin_V ?_|refine fin_Ve ?_|refine fin_O ?_|refine fin_Oe ?_|refine fin_X ?_|refine fin_Xe ?_|refine fin_B ?_|refine fin_Be ?_);simp only [go_sem,PV.own.injEq,MB.row.injEq,MB.nmb,not_false_eq_true,ne_eq,↓upd_def,↓reduceIte,reduceCtorEq])
   exact hK _ _ ⟨y9++[.mk 1 [] [] [] [],.mk 4 [] [120] [] [.mk 2 [] [97] [] []]],_,by simp [encPs_append,encPs_one,encP_mk,encPs_nil,encPs_two],rfl,by (try simp only [wtL_append,wtL_one,wtP_mk,wtL_nil,wtL_two,List.length_nil,List.length_cons]);omega,by omega,by omega⟩
 · rename List PartD=>y9
   ((first|refine fin_V ?_|refine fin_Ve ?_|refine fin_O ?_|refine fin_Oe ?_|refine fin_X ?_|refine fin_Xe ?_|refine fin_B ?_|refine fin_Be ?_);simp only [go_sem,PV.own.injEq,MB.row.injEq,MB.nmb,not_false_eq_true,ne_eq,↓upd_def,↓reduceIte,reduceCtorEq])
   exact hK _ _ ⟨y9,_,by simp,rfl,by (try simp only [wtL_append,wtL_one,wtP_mk,wtL_nil,wtL_two,List.length_nil,List.length_cons]);omega,by omega,by omega⟩
theorem tpl_ok:ACok Tryz.prog 50 (tplC 5000 1000):=tpl_of tpl_ok0
end Go.Proofs.YtnbjogilidfkdaaGreat

/- Drawn inputs of the laws over parts: what comes back is frozen, behind it any memory. -/
namespace Go.Proofs.YtnbjogilidfkdaaGreat
set_option maxRecDepth 100000
set_option linter.unusedVariables false
set_option linter.unusedSimpArgs false
open Go.RowKit
--LV=R9
/-- A drawing function: some good input, whose memory is frozen; behind it any memory. -/
def drwO {α:Type} (good:α→Prop) (enc:α→PV):AC:=fun args mem n K=>match args with
 | [.seq es]=>(∃ l:Bs,es=l.map bc∧l.length≤1048576)∧ ∀ x r m' n',good x→res m' r=enc x→n≤n'→K r m' n'
 | _=>False
@[go_sem] def drwG {α:Type} (good:α→Prop) (enc:α→PV):AC:=fun args mem n K=>match args with
 | [.seq es]=>(∃ l:Bs,es=l.map bc∧l.length≤1048576)∧ ∀ x,good x→ ∀ m' n',n≤n'→K (enc x) m' n'
 | _=>False
theorem frzR_ok9 {P:Program} {f:FuncId} {C:AC} (h:ACok P f C):ACok P f (fun args mem n K=>C args mem n fun r mem' n'=>K (res mem' r) (frz mem' (owns r)) n'):=by
 refine ⟨h.fn,fun c mem n args vs K hI hn hr hC=>?_⟩
 refine (h.run c mem n args vs _ hI hn hr hC).mono ?_
 rintro e w' ⟨v',r,c',mem',n',rfl,hw,hK,st',hrep⟩
 obtain ⟨c1,w1,r1,st⟩:=Step.frz (owns r) st'.inv st'.free
 exact ⟨v',res mem' r,c1,frz mem' (owns r),n',rfl,w1.trans hw,hK,st'.trans st,rep_res st.inv (frz_fits mem' (owns r)) (Rep.mono _ st.le hrep)⟩
theorem drw_of {f:FuncId} {α:Type} {good:α→Prop} {enc:α→PV} (h:ACok Tryz.prog f (drwO good enc)):ACok Tryz.prog f (drwG good enc):=(frzR_ok9 h).mono fun args mem n K h=>by
 unfold drwG at h
 split at h
 · rename_i es
   obtain ⟨he,hK⟩:=h
   refine ⟨he,fun x r m' n' hx hr hn=>?_⟩
   show K (res m' r) _ _
   rw [hr]
   exact hK x hx _ _ hn
 · exact h.elim
theorem drw_args {α:Type} {good:α→Prop} {enc:α→PV} {args:List PV} {mem:Mem} {n:Nat} {K:PV→Mem→Nat→Prop} (h:drwO good enc args mem n K): ∃ es,args=[.seq es]∧(∃ l:Bs,es=l.map bc∧l.length≤1048576)∧ ∀ x r m' n',good x→res m' r=enc x→n≤n'→K r m' n':=by
 unfold drwO at h
 split at h
 · exact ⟨_,rfl,h⟩
 · exact h.elim
theorem q_1 {n:Nat}:(n=n+1)=False:=by simp
theorem q_3 {n:Nat}:(n=n+1+1)=False:=by simp<;>omega
theorem q_9 {n:Nat}:(n=n+3)=False:=by simp
def gdX (xs:List PartD):Prop:=wtL xs≤6000∧xs.length≤6000
end Go.Proofs.YtnbjogilidfkdaaGreat
