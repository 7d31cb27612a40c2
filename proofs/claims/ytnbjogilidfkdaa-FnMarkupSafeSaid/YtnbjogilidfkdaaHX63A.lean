/- Contracts: the reference's reading of tokens, what is spoken of. -/
import Derived.Test.YtnbjogilidfkdaaHX53A
import Derived.Test.YtnbjogilidfkdaaHK21
import Derived.Test.YtnbjogilidfkdaaHX3
import Derived.Test.YtnbjogilidfkdaaHS3
import Derived.Test.YtnbjogilidfkdaaHX1
import Derived.Test.YtnbjogilidfkdaaHFP

namespace Go.Proofs.Ytnbjogilidfkdaa
attribute [local irreducible] awp arun acalm FinP Fin AX.then AX.inBlock Again aG gsel amix amixN amixC aop aopc aopd cutK
attribute [local go_sem] aBSliceD aSlice aSliceC boundOf aMk aCall aCallC aLenL aLen aPick_t aPick_f aNil aAlloc aBox aBuild bldPV aBSlice bsPV aApp newsOf destOf drp aConvX aConv aConvInt aLoad cellsAt aStore cellsPV setAt aFld aField aIdx aIndex aUn aBin' aBin aMax aExtract pvOf PV.isCell nmbL PV.nmb List.map_cons List.map_nil List.all_cons List.all_nil Bool.and_true Bool.true_and if_true if_false List.getD_cons_zero List.getD_cons_succ List.getD_nil Option.isSome_some true_and and_true and_self eq_self true_or or_true List.drop_zero List.drop_succ_cons List.drop_nil List.take_zero List.take_succ_cons List.take_nil List.length_cons List.length_nil List.length_map Option.getD_some Option.getD_none List.nil_append List.cons_append List.append_nil Option.some.injEq exists_eq_left' List.getElem?_cons_zero List.getElem?_cons_succ Int.toNat_natCast Int.natCast_inj toNat_succ Nat.zero_add res res1 resC owns owns1 ownsC List.flatMap_cons List.flatMap_nil List.flatten_cons List.flatten_nil List.mem_cons List.not_mem_nil or_false false_or forall_eq forall_eq_or_imp isFro frz frz1 pureC tabA isBld List.cons.injEq PV.seq.injEq PV.int.injEq PV.str.injEq PV.bool.injEq PV.agg.injEq inR tab Γof aRes packR Option.map_some Option.map_none rel Prod.exists exists_and_left exists_eq_left and_assoc beq_self_eq_true Bool.not_true Bool.not_false decide_true decide_false List.set_cons_zero List.set_cons_succ rst_nil rst_cons
attribute [local go_sem ↓] evT upd_def aop aopc aopd
set_option maxRecDepth 100000
set_option linter.unusedVariables false
set_option linter.unusedSimpArgs false
open Go.RowKit
def lvX63A_90:Nat→List Nat
 | 0=>[0,3]
 | 1=>[0,3,17]
 | 2=>[4]
 | 3=>[4]
 | _=>[]
def lvX63A_93:Nat→List Nat
 | 0=>[0,2,4]
 | 1=>[0,2,4,9]
 | 2=>[6]
 | 3=>[6]
 | _=>[]
--LV=X63A
theorem closeP_len (m:Int) (ta v:Bs) (ps:List (Bs×Bs)):(closeP m ta v ps).length≤ps.length+1:=by
 unfold closeP
 split<;>simp
theorem sl_byte {s:Bs} {k:Nat} (h:k<s.length):(s.take (k+1)).drop k=[s.getD k 0]:=by
 rw [List.take_succ_eq_append_getElem h,List.drop_left' (by rw [List.length_take];omega)]
 simp [List.getD_eq_getElem?_getD,h]
theorem prs_nil {a:List (Bs×Bs)}:([]:List (List PV))=encPrs a↔[]=a:=by rw [show ([]:List (List PV))=encPrs [] from rfl,encPrs_iff]
theorem prs_pt (a:List (Bs×Bs)) (n v:Bs):encPrs a++[[.str n,.str v]]=encPrs (a++[(n,v)]):=encPrs_pt a n v
@[go_sem] def put6C0:AC:=locX 29 4 (α:=List TokD×Int×Bs) (fun x=>[.agg [.int .i64 x.2.1,.str [],.str x.2.2,.nil]]) (fun x=> .row 29 4 (encTks x.1)) (fun x=>x.1.length≤1000) (fun x es=>es=encTks (putTk x.1 ⟨x.2.1,[],x.2.2,[]⟩))
set_option maxHeartbeats 8000000 in
theorem put6_ok0:ACok Try.prog 90 put6C0:=by
 refine locX_ok 2 (tabA_nil (Γof_ok tab_nil)) tab_nil mixed [.tmp 4] Try.func90 rfl rfl (by kernel_rfl) (by kernel_rfl) (fun _=>rfl) (by kernel_rfl) (fun x=>by simp [nmbL,PV.nmb]) (fun x=>by simp [go_sem,MB.nmb]) ?_
 rintro ⟨l,k,v⟩ K hl hK
 dsimp only at *
 unfold putTk at hK
 unfold entry
 simp only [mkM] at *
 repeat' (first|((first|apply qwd|apply qa1|apply qh1|apply qg1 rfl|apply qcd);(try intro K hk);focus (simp only [lvX63A_90,mkT,go_sem,Nat.reduceEqDiff,Nat.reduceAdd,Nat.reduceLeDiff,↓reduceIte,reduceCtorEq,tok_app53n,encTks_len];first|exact rfl|((repeat refine ai ?_);intros;apply hk;clear hk K)))|apply qw1|refine qwc lvX63A_90 ?_|apply qt1|apply qw2|apply qt3|apply qw4|apply qj1|apply qj2|apply qj3|apply qj4|apply qu1|(refine qj6 ?_ ?_<;>intro hc<;>(try simp only [hc])<;>(try simp only [decide_eq_true_eq,decide_eq_false_iff_not] at hc)<;>(try (exfalso;omega))))
 all_goals
  ((first|refine fin_V ?_|refine fin_Ve ?_|refine fin_O ?_|refine fin_Oe ?_|refine fin_X ?_|refine fin_Xe ?_|refine fin_B ?_|refine fin_Be ?_);simp only [go_sem,PV.own.injEq,MB.row.injEq,↓upd_def,↓reduceIte,reduceCtorEq])
  first
   | (refine hK _ ?_;rw [if_pos (by simp [*])];done)
   | (refine hK _ ?_;rw [if_neg (by simp [*])];done)
@[go_sem] def put6C:AC:=fun args mem n K=>match args with
 | [.own i,.agg [.int .i64 k,.str nm,.str v,z]]=>(match mem i with
   | some (.row e s es)=>e=29∧s=4∧nm=[]∧z= .nil∧(∃ l,es=encTks l∧l.length≤1000∧K (.own n) (upd (upd mem i none) n (some (.row 29 4 (encTks (putTk l ⟨k,[],v,[]⟩))))) (n+1))
   | _=>False)
 | _=>False
theorem put6_ok:ACok Try.prog 90 put6C:=put6_ok0.mono fun args mem n K h=>by
 unfold put6C at h
 split at h
 · rename_i i k nm v z
   split at h
   · rename_i e s es hm
     obtain ⟨rfl,rfl,rfl,rfl,l,rfl,h1,hK⟩:=h
     refine ⟨(l,k,v),i,rfl,h1,hm,?_⟩
     rintro es rfl
     exact hK
   · exact h.elim
 · exact h.elim
@[go_sem] def cl6C:PC:=rel (α:=List (Bs×Bs)×St×Bs) (fun x=>[.seq (encPrs x.1),.agg (encS x.2.1),.str x.2.2]) (fun x=>x.1.length≤1000∧okS x.2.1∧x.2.2.length≤1099511627776) (fun x=> .seq (encPrs (closeP x.2.1.mode x.2.1.attr x.2.2 x.1)))
theorem ex_PSB {p:List (Bs×Bs)×St×Bs→Prop}:(∃ x,p x)↔ ∃ a m tg ta ts c,p (a,⟨m,tg,ta,ts⟩,c):=⟨fun ⟨(a,⟨m,tg,ta,ts⟩,c),h⟩=>⟨a,m,tg,ta,ts,c,h⟩,fun ⟨a,m,tg,ta,ts,c,h⟩=>⟨_,h⟩⟩
set_option maxHeartbeats 8000000 in
theorem cl6_s:PureOk Try.prog 93 cl6C:=by
 refine pure_rel 3 (tab_cons in_s (tab_cons un_s tab_nil)) mixed [.tmp 6] Try.func93 rfl rfl (by kernel_rfl) (by kernel_rfl) (fun _=>rfl) (by kernel_rfl) ?_
 rintro ⟨ps,⟨m,tg,ta,ts⟩,v⟩ K ⟨hl,ho,hv⟩ hK
 dsimp only at *
 unfold closeP at hK
 simp only [encS_mk] at *
 unfold entry
 by_cases h48:4≤m∧m≤8
 · rw [if_pos h48] at hK
   have e48:(decide (4≤m) && decide (m≤8))=true:=by simp [h48]
   repeat' (first|(refine qw10 [0] [1,3,4,5,6,7] [1,3,4,5,0,2,6,7,8,9,10] ?_ ?_;focus (decide +kernel))|(first|((first|apply qwd|apply qa1|apply qm1|apply qm2|apply qcd);(try intro K hk);focus (simp only [lvX63A_93,mkT,go_sem,Nat.reduceEqDiff,Nat.reduceAdd,Nat.reduceLeDiff,Nat.reduceLT,↓reduceIte,reduceCtorEq,e48,encPrs_all,encPrs_len,prs_pt,List.nil_append,List.length_nil];first|exact rfl|((repeat refine ai ?_);intros;apply hk;clear hk K)))|apply qw1|refine qwc lvX63A_93 ?_|apply qt1|apply qt3|apply qw4|apply qj1|apply qne|(refine qk1 ?_ ?_;focus (repeat (first|exact qsub0|(refine qsub1 ?_ ?_;focus (simp only [go_sem,↓reduceIte,reduceCtorEq])))))))
   ((first|refine fin_ret ?_|refine fin_end ?_);simp only [go_sem,↓upd_def,↓reduceIte])
   exact hK
 · rw [if_neg h48] at hK
   have e48:(decide (4≤m) && decide (m≤8))=false:=by
    rw [← Bool.not_eq_true]
    simpa using fun h=>Int.not_le.1 fun h2=>h48 ⟨h,h2⟩
   repeat' (first|((first|apply qwd|apply qa1|apply qcd);(try intro K hk);focus (simp only [lvX63A_93,mkT,go_sem,Nat.reduceEqDiff,↓reduceIte,reduceCtorEq,e48];first|exact rfl|((repeat refine ai ?_);intros;apply hk;clear hk K)))|apply qw1|refine qwc lvX63A_93 ?_|apply qt1|apply qw2|apply qw4|apply qj4)
   ((first|refine fin_ret ?_|refine fin_end ?_);simp only [go_sem,↓upd_def,↓reduceIte])
   exact hK
/-- What is done with a byte. -/
noncomputable def body63:Code:=match Try.f59.body with
 | some c=>(firstLoop c).getD .skip
 | none=> .skip
def T63 (s:Bs) (i:Nat×TkS×Bool):List (Nat×PV):=[(0,.str s),(4,.own 0),(5,.ref 1 0),(6,.str i.2.1.buf),(7,cond i.2.2 (.own 2) (.seq (encPrs i.2.1.ps))),(8,.int .i64 i.1)]
def M63 (i:Nat×TkS×Bool):List (Nat×MB):=[(0,.row 29 4 (encTks i.2.1.out)),(1,.box (encS i.2.1.s))]++cond i.2.2 [(2,.row 33 2 [])] []
def good63 (s:Bs) (i:Nat×TkS×Bool):Prop:=i.1≤s.length∧TsAt s i.1 i.2.1∧(i.2.2=true→i.2.1.ps=[])
def mu63 (s:Bs) (i:Nat×TkS×Bool):Nat:=s.length - i.1
def G63:PCtr:=tab [(94,strC textB),(89,sbC okS step),(91,tC fun s=> .str (unT s)),(92,inC),(93,cl6C)]
def A63:Ctr:=tabA [(90,put6C)] (Γof G63)
/-- One round leads on. -/
def Round63 (s:Bs) (i:Nat×TkS×Bool) (Q:AX→AS→Prop):Prop:=awp Try.prog G63 A63 0 body63 (AX.then (Again 0 (T63 s) M63 3 (good63 s) (mu63 s) i) Q) (mkS (T63 s i) (M63 i) 3)
end Go.Proofs.Ytnbjogilidfkdaa

/- The reference's reading of tokens: texts, comments, ends. -/
namespace Go.Proofs.Ytnbjogilidfkdaa
attribute [local irreducible] awp arun acalm FinP Fin AX.then AX.inBlock Again aG gsel amix amixN amixC aop aopc aopd cutK
attribute [local go_sem] aBSliceD aSlice aSliceC boundOf aMk aCall aCallC aLenL aLen aPick_t aPick_f aNil aAlloc aBox aBuild bldPV aBSlice bsPV aApp newsOf destOf drp aConvX aConv aConvInt aLoad cellsAt aStore cellsPV setAt aFld aField aIdx aIndex aUn aBin' aBin aMax aExtract pvOf PV.isCell nmbL PV.nmb List.map_cons List.map_nil List.all_cons List.all_nil Bool.and_true Bool.true_and if_true if_false List.getD_cons_zero List.getD_cons_succ List.getD_nil Option.isSome_some true_and and_true and_self eq_self true_or or_true List.drop_zero List.drop_succ_cons List.drop_nil List.take_zero List.take_succ_cons List.take_nil List.length_cons List.length_nil List.length_map Option.getD_some Option.getD_none List.nil_append List.cons_append List.append_nil Option.some.injEq exists_eq_left' List.getElem?_cons_zero List.getElem?_cons_succ Int.toNat_natCast Int.natCast_inj toNat_succ Nat.zero_add res res1 resC owns owns1 ownsC List.flatMap_cons List.flatMap_nil List.flatten_cons List.flatten_nil List.mem_cons List.not_mem_nil or_false false_or forall_eq forall_eq_or_imp isFro frz frz1 pureC tabA isBld List.cons.injEq PV.seq.injEq PV.int.injEq PV.str.injEq PV.bool.injEq PV.agg.injEq inR tab Γof aRes packR Option.map_some Option.map_none rel Prod.exists exists_and_left exists_eq_left and_assoc beq_self_eq_true Bool.not_true Bool.not_false decide_true decide_false List.set_cons_zero List.set_cons_succ rst_nil rst_cons
attribute [local go_sem ↓] evT upd_def aop aopc aopd
set_option maxRecDepth 100000
set_option linter.unusedVariables false
set_option linter.unusedSimpArgs false
open Go.RowKit
def lvX63B_59:Nat→List Nat
 | 0=>[0]
 | 1=>[0,4]
 | 2=>[0,4,5]
 | 3=>[0,4,5,6]
 | 4=>[0,4,5,6,7]
 | 5=>[0,4,5,6,7,8]
 | 6=>[0,4,5,6,7,8,17]
 | 7=>[0,4,5,6,7,8]
 | 8=>[0,4,5,6,7,8,9]
 | 9=>[0,4,5,6,7,8,9,10]
 | 10=>[0,4,5,6,7,8,9,10,30]
 | 11=>[0,4,5,8,9]
 | 12=>[0,4,5,6,8,9]
 | 13=>[0,4,5,6,7,8,9]
 | 14=>[0,4,5,6,7,8,9,10,45]
 | 15=>[0,4,5,7,8,9]
 | 16=>[0,4,5,6,7,8,9]
 | 17=>[0,4,5,6,7,8,9,10,59]
 | 18=>[0,4,5,7,8,9]
 | 19=>[0,4,5,6,7,8,9]
 | 20=>[0,4,5,6,7,8,9,10,74]
 | 21=>[0,4,5,7,8,9]
 | 22=>[0,4,5,7,8,9]
 | 23=>[0,4,5,6,7,8,9]
 | 24=>[0,4,5,6,7,8,9,10,99]
 | 25=>[0,4,5,7,8,9]
 | 26=>[0,4,5,6,7,8,9]
 | 27=>[0,4,5,6,7,8,9,10,112]
 | 28=>[0,4,5,7,8,9]
 | 29=>[0,4,5,6,7,8,9]
 | 30=>[0,4,5,6,7,8,9,10,129]
 | 31=>[0,4,5,6,7,8,9]
 | 32=>[0,4,5,6,7,8]
 | 33=>[0,4,5,6,7,8,158]
 | 34=>[2,3]
 | 35=>[0,4,5]
 | 36=>[4,177]
 | 37=>[2,3]
 | 38=>[2,3]
 | _=>[]
--LV=X63B
theorem putTk_len (l:List TokD) (t:TokD):(putTk l t).length≤l.length+1:=by
 unfold putTk
 split<;>simp
theorem cut_last {l:Bs} (h:l≠[]):l.take ((l.length:Int) - 1).toNat=l.dropLast:=by
 have:((l.length:Int) - 1).toNat=l.length - 1:=by omega
 rw [this,List.dropLast_eq_take]
set_option maxHeartbeats 40000000 in
theorem w63_1 {s:Bs} {k:Nat} {m:Int} {tg ta:Bs} {ts:Bool} {buf:Bs} {ps:List (Bs×Bs)} {out:List TokD} {pb:Bool} {b:UInt8} {n:Int} {ng na:Bs} {ns:Bool} {Q:AX→AS→Prop}
 (hsl:s.length≤1048576) (hkl:k<s.length) (hb:s.getD k 0=b) (hn:step ⟨m,tg,ta,ts⟩ b=⟨n,ng,na,ns⟩) (hx:TsAt s k ⟨⟨m,tg,ta,ts⟩,buf,ps,out⟩)
 (hpb:pb=true→ps=[]) (hQ:tokM s=none→ ∀ σ j,σ.tmp 2= .own j→σ.mem j=some (.row 29 4 [])→σ.tmp 3= .bool false→Q .ret σ) (hm:m=0) (hn0:n=1):Round63 s (k,⟨⟨m,tg,ta,ts⟩,buf,ps,out⟩,pb) Q:=by
 have hoS:okS ⟨m,tg,ta,ts⟩:=okS_of hx.v
 have hoN:=okS_of (stV_step ⟨m,tg,ta,ts⟩ b)
 rw [hn] at hoN
 have hlo:out.length≤60:=hx.lo
 have hlp:ps.length≤60:=hx.lp
 have hbr:buf.length≤k:=hx.buf
 have hles:m=14→buf≠[]:=hx.less
 have hz:=ts_1 (buf:=buf) (ps:=ps) (out:=out) hn hm hn0
 have hst:=fun h1 h2=>hx.step hkl ((congrArg (tsStep _) hb).trans hz) h1 h2
 have hsp:=fun h1=>hx.stop hkl ((congrArg (tsStep _) hb).trans hz) h1
 clear hx
 try dsimp only at hst hsp
 have hbl:=byte_lt s k
 rw [hb] at hbl
 have hsl1:=sl_byte hkl
 rw [hb] at hsl1
 subst hm hn0
 have hpl:=putTk_len out (tkText (unT buf))
 have hpe:putTk out ⟨1,[],unT buf,[]⟩=putTk out (tkText (unT buf)):=rfl
 unfold Round63 body63
 simp only [Try.f59,firstLoop,Option.getD_some,G63,A63]
 cases pb
 · simp only [T63,M63,mkS,mkT,mkM,cond_false,List.append_nil]
   repeat' (first|(refine qw10 [1] [0,1,2,3,4] [0,1,2,3,4,5,6] ?_ ?_;focus (decide +kernel))|(first|((first|apply qwd|apply qa1|apply qa2|apply qh1|apply qm1|apply qm2|apply qm3|apply qg1 rfl|apply qcd);(try intro K hk);focus (simp only [lvX63B_59,mkT,go_sem,Nat.reduceEqDiff,Nat.reduceAdd,Nat.reduceLeDiff,Nat.reduceLT,↓reduceIte,reduceCtorEq,hpe,exl,encTks_iff,hb,hn,encS_eq,ex_St,encTks_len,List.length_nil,List.length_cons,decide_true,Bool.and_true,hsl1];first|exact rfl|((repeat refine ai ?_);intros;apply hk;clear hk K)))|apply qw1|refine qwc lvX63B_59 ?_|apply qt1|apply qw5|apply qw2|apply qt3|apply qt4|apply qt6|apply qw4|apply qj1|apply qj2|apply qj3|apply qj4|apply qu1|apply qne|(refine qj6 ?_ ?_<;>intro hc<;>(try simp only [hc])<;>(try simp only [decide_eq_true_eq,decide_eq_false_iff_not] at hc)<;>(try (exfalso;omega)))|(refine qk1 ?_ ?_;focus (repeat (first|exact qsub0|(refine qsub1 ?_ ?_;focus (simp only [go_sem,Nat.reduceEqDiff,↓reduceIte,reduceCtorEq])))))))
   all_goals first
    | exact hQ (hsp (by first|(left;simp only [List.length_append,List.length_singleton];omega)|(right;omega)|(left;omega)|(simp;omega))) _ _ rfl rfl rfl
    | (refine s_againR ((k+1,⟨⟨1,ng,na,ns⟩,[],[],putTk out (tkText (unT buf))⟩,true)) (fun i=>if i=0 then 4 else if i =  2 then 5 else i) ?_ ?_ ?_ ?_ ?_ ?_<;>(first|omega|(dsimp only;omega)|(intro i hi;(try dsimp only);(repeat' split)<;>omega)|(intro i j hi hj h;(try dsimp only at h);(repeat' split at h)<;>omega)|skip)
       all_goals first
        | (unfold good63;exact ⟨by dsimp only;omega,hst (by first|omega|(simp only [List.length_append,List.length_singleton];omega)) (by first|omega|simp),by first|exact fun _=>rfl|(intro h;cases h)⟩)
        | (unfold mu63;dsimp only;omega)
        | (simp [T63,M63,fitsTR,fitsMR,PV.ren,renL,MB.ren,upd_def,PV.nmb,nmbL,MB.nmb,encS_mk,encPrs_nil,tkText];done))
 · obtain rfl:ps=[]:=hpb rfl
   simp only [T63,M63,mkS,mkT,mkM,cond_true,List.cons_append,List.nil_append]
   repeat' (first|(refine qw10 [1] [0,1,2,3,4] [0,1,2,3,4,5,6] ?_ ?_;focus (decide +kernel))|(first|((first|apply qwd|apply qa1|apply qa2|apply qh1|apply qm1|apply qm2|apply qm3|apply qg1 rfl|apply qcd);(try intro K hk);focus (simp only [lvX63B_59,mkT,go_sem,Nat.reduceEqDiff,Nat.reduceAdd,Nat.reduceLeDiff,Nat.reduceLT,↓reduceIte,reduceCtorEq,hpe,exl,encTks_iff,hb,hn,encS_eq,ex_St,encTks_len,List.length_nil,List.length_cons,decide_true,Bool.and_true,hsl1];first|exact rfl|((repeat refine ai ?_);intros;apply hk;clear hk K)))|apply qw1|refine qwc lvX63B_59 ?_|apply qt1|apply qw5|apply qw2|apply qt3|apply qt4|apply qt6|apply qw4|apply qj1|apply qj2|apply qj3|apply qj4|apply qu1|apply qne|(refine qj6 ?_ ?_<;>intro hc<;>(try simp only [hc])<;>(try simp only [decide_eq_true_eq,decide_eq_false_iff_not] at hc)<;>(try (exfalso;omega)))|(refine qk1 ?_ ?_;focus (repeat (first|exact qsub0|(refine qsub1 ?_ ?_;focus (simp only [go_sem,Nat.reduceEqDiff,↓reduceIte,reduceCtorEq])))))))
   all_goals first
    | exact hQ (hsp (by first|(left;simp only [List.length_append,List.length_singleton];omega)|(right;omega)|(left;omega)|(simp;omega))) _ _ rfl rfl rfl
    | (refine s_againR ((k+1,⟨⟨1,ng,na,ns⟩,[],[],putTk out (tkText (unT buf))⟩,true)) (fun i=>if i=0 then 4 else if i =  2 then 5 else i) ?_ ?_ ?_ ?_ ?_ ?_<;>(first|omega|(dsimp only;omega)|(intro i hi;(try dsimp only);(repeat' split)<;>omega)|(intro i j hi hj h;(try dsimp only at h);(repeat' split at h)<;>omega)|skip)
       all_goals first
        | (unfold good63;exact ⟨by dsimp only;omega,hst (by first|omega|(simp only [List.length_append,List.length_singleton];omega)) (by first|omega|simp),by first|exact fun _=>rfl|(intro h;cases h)⟩)
        | (unfold mu63;dsimp only;omega)
        | (simp [T63,M63,fitsTR,fitsMR,PV.ren,renL,MB.ren,upd_def,PV.nmb,nmbL,MB.nmb,encS_mk,encPrs_nil,tkText];done))
set_option maxHeartbeats 40000000 in
theorem w63_2 {s:Bs} {k:Nat} {m:Int} {tg ta:Bs} {ts:Bool} {buf:Bs} {ps:List (Bs×Bs)} {out:List TokD} {pb:Bool} {b:UInt8} {n:Int} {ng na:Bs} {ns:Bool} {Q:AX→AS→Prop}
 (hsl:s.length≤1048576) (hkl:k<s.length) (hb:s.getD k 0=b) (hn:step ⟨m,tg,ta,ts⟩ b=⟨n,ng,na,ns⟩) (hx:TsAt s k ⟨⟨m,tg,ta,ts⟩,buf,ps,out⟩)
 (hpb:pb=true→ps=[]) (hQ:tokM s=none→ ∀ σ j,σ.tmp 2= .own j→σ.mem j=some (.row 29 4 [])→σ.tmp 3= .bool false→Q .ret σ) (hm:m=10) (hn0:n=0):Round63 s (k,⟨⟨m,tg,ta,ts⟩,buf,ps,out⟩,pb) Q:=by
 have hoS:okS ⟨m,tg,ta,ts⟩:=okS_of hx.v
 have hoN:=okS_of (stV_step ⟨m,tg,ta,ts⟩ b)
 rw [hn] at hoN
 have hlo:out.length≤60:=hx.lo
 have hlp:ps.length≤60:=hx.lp
 have hbr:buf.length≤k:=hx.buf
 have hles:m=14→buf≠[]:=hx.less
 have hz:=ts_2 (buf:=buf) (ps:=ps) (out:=out) hn hm hn0
 have hst:=fun h1 h2=>hx.step hkl ((congrArg (tsStep _) hb).trans hz) h1 h2
 have hsp:=fun h1=>hx.stop hkl ((congrArg (tsStep _) hb).trans hz) h1
 clear hx
 try dsimp only at hst hsp
 have hbl:=byte_lt s k
 rw [hb] at hbl
 have hsl1:=sl_byte hkl
 rw [hb] at hsl1
 subst hm hn0
 unfold Round63 body63
 simp only [Try.f59,firstLoop,Option.getD_some,G63,A63]
 cases pb
 · simp only [T63,M63,mkS,mkT,mkM,cond_false,List.append_nil]
   repeat' (first|(refine qw10 [1] [0,1,2,3,4] [0,1,2,3,4,5,6] ?_ ?_;focus (decide +kernel))|(first|((first|apply qwd|apply qa1|apply qa2|apply qh1|apply qm1|apply qm2|apply qm3|apply qg1 rfl|apply qcd);(try intro K hk);focus (simp only [lvX63B_59,mkT,go_sem,Nat.reduceEqDiff,Nat.reduceAdd,Nat.reduceLeDiff,Nat.reduceLT,↓reduceIte,reduceCtorEq,exl,hb,hn,encS_eq,ex_St,encTks_len,encPrs_len,tok_app53n,List.length_nil,List.length_cons,List.length_append,Int.reduceEq,decide_true,decide_false,Bool.and_true,hsl1];first|exact rfl|((repeat refine ai ?_);intros;apply hk;clear hk K)))|apply qw1|refine qwc lvX63B_59 ?_|apply qt1|apply qw5|apply qw2|apply qt3|apply qt4|apply qt6|apply qw4|apply qj1|apply qj2|apply qj3|apply qj4|apply qu1|apply qne|(refine qj6 ?_ ?_<;>intro hc<;>(try simp only [hc])<;>(try simp only [decide_eq_true_eq,decide_eq_false_iff_not] at hc)<;>(try (exfalso;omega)))|(refine qk1 ?_ ?_;focus (repeat (first|exact qsub0|(refine qsub1 ?_ ?_;focus (simp only [go_sem,Nat.reduceEqDiff,↓reduceIte,reduceCtorEq])))))))
   all_goals first
    | exact hQ (hsp (by first|(left;simp only [List.length_append,List.length_singleton];omega)|(right;omega)|(left;omega)|(simp;omega))) _ _ rfl rfl rfl
    | (refine s_againR ((k+1,⟨⟨0,ng,na,ns⟩,[],ps,out++[tkCom buf]⟩,false)) (fun i=>if i=0 then 5 else i) ?_ ?_ ?_ ?_ ?_ ?_<;>(first|omega|(dsimp only;omega)|(intro i hi;(try dsimp only);(repeat' split)<;>omega)|(intro i j hi hj h;(try dsimp only at h);(repeat' split at h)<;>omega)|skip)
       all_goals first
        | (unfold good63;exact ⟨by dsimp only;omega,hst (by first|omega|(simp only [List.length_append,List.length_singleton];omega)) (by first|omega|simp),by first|exact fun _=>rfl|(intro h;cases h)⟩)
        | (unfold mu63;dsimp only;omega)
        | (simp [T63,M63,fitsTR,fitsMR,PV.ren,renL,MB.ren,upd_def,PV.nmb,nmbL,MB.nmb,encS_mk,tkCom];done))
 · obtain rfl:ps=[]:=hpb rfl
   simp only [T63,M63,mkS,mkT,mkM,cond_true,List.cons_append,List.nil_append]
   repeat' (first|(refine qw10 [1] [0,1,2,3,4] [0,1,2,3,4,5,6] ?_ ?_;focus (decide +kernel))|(first|((first|apply qwd|apply qa1|apply qa2|apply qh1|apply qm1|apply qm2|apply qm3|apply qg1 rfl|apply qcd);(try intro K hk);focus (simp only [lvX63B_59,mkT,go_sem,Nat.reduceEqDiff,Nat.reduceAdd,Nat.reduceLeDiff,Nat.reduceLT,↓reduceIte,reduceCtorEq,exl,hb,hn,encS_eq,ex_St,encTks_len,tok_app53n,List.length_nil,List.length_cons,List.length_append,Int.reduceEq,decide_true,decide_false,Bool.and_true,hsl1];first|exact rfl|((repeat refine ai ?_);intros;apply hk;clear hk K)))|apply qw1|refine qwc lvX63B_59 ?_|apply qt1|apply qw5|apply qw2|apply qt3|apply qt4|apply qt6|apply qw4|apply qj1|apply qj2|apply qj3|apply qj4|apply qu1|apply qne|(refine qj6 ?_ ?_<;>intro hc<;>(try simp only [hc])<;>(try simp only [decide_eq_true_eq,decide_eq_false_iff_not] at hc)<;>(try (exfalso;omega)))|(refine qk1 ?_ ?_;focus (repeat (first|exact qsub0|(refine qsub1 ?_ ?_;focus (simp only [go_sem,Nat.reduceEqDiff,↓reduceIte,reduceCtorEq])))))))
   all_goals first
    | exact hQ (hsp (by first|(left;simp only [List.length_append,List.length_singleton];omega)|(right;omega)|(left;omega)|(simp;omega))) _ _ rfl rfl rfl
    | (refine s_againR ((k+1,⟨⟨0,ng,na,ns⟩,[],[],out++[tkCom buf]⟩,true)) (fun i=>if i=0 then 5 else i) ?_ ?_ ?_ ?_ ?_ ?_<;>(first|omega|(dsimp only;omega)|(intro i hi;(try dsimp only);(repeat' split)<;>omega)|(intro i j hi hj h;(try dsimp only at h);(repeat' split at h)<;>omega)|skip)
       all_goals first
        | (unfold good63;exact ⟨by dsimp only;omega,hst (by first|omega|(simp only [List.length_append,List.length_singleton];omega)) (by first|omega|simp),by first|exact fun _=>rfl|(intro h;cases h)⟩)
        | (unfold mu63;dsimp only;omega)
        | (simp [T63,M63,fitsTR,fitsMR,PV.ren,renL,MB.ren,upd_def,PV.nmb,nmbL,MB.nmb,encS_mk,encPrs_nil,tkCom];done))
set_option maxHeartbeats 40000000 in
theorem w63_3 {s:Bs} {k:Nat} {m:Int} {tg ta:Bs} {ts:Bool} {buf:Bs} {ps:List (Bs×Bs)} {out:List TokD} {pb:Bool} {b:UInt8} {n:Int} {ng na:Bs} {ns:Bool} {Q:AX→AS→Prop}
 (hsl:s.length≤1048576) (hkl:k<s.length) (hb:s.getD k 0=b) (hn:step ⟨m,tg,ta,ts⟩ b=⟨n,ng,na,ns⟩) (hx:TsAt s k ⟨⟨m,tg,ta,ts⟩,buf,ps,out⟩)
 (hpb:pb=true→ps=[]) (hQ:tokM s=none→ ∀ σ j,σ.tmp 2= .own j→σ.mem j=some (.row 29 4 [])→σ.tmp 3= .bool false→Q .ret σ) (hm:m=9) (hn0:n=0):Round63 s (k,⟨⟨m,tg,ta,ts⟩,buf,ps,out⟩,pb) Q:=by
 have hoS:okS ⟨m,tg,ta,ts⟩:=okS_of hx.v
 have hoN:=okS_of (stV_step ⟨m,tg,ta,ts⟩ b)
 rw [hn] at hoN
 have hlo:out.length≤60:=hx.lo
 have hlp:ps.length≤60:=hx.lp
 have hbr:buf.length≤k:=hx.buf
 have hles:m=14→buf≠[]:=hx.less
 have hz:=ts_3 (buf:=buf) (ps:=ps) (out:=out) hn hm hn0
 have hst:=fun h1 h2=>hx.step hkl ((congrArg (tsStep _) hb).trans hz) h1 h2
 have hsp:=fun h1=>hx.stop hkl ((congrArg (tsStep _) hb).trans hz) h1
 clear hx
 try dsimp only at hst hsp
 have hbl:=byte_lt s k
 rw [hb] at hbl
 have hsl1:=sl_byte hkl
 rw [hb] at hsl1
 subst hm hn0
 unfold Round63 body63
 simp only [Try.f59,firstLoop,Option.getD_some,G63,A63]
 cases pb
 · simp only [T63,M63,mkS,mkT,mkM,cond_false,List.append_nil]
   repeat' (first|(refine qw10 [1] [0,1,2,3,4] [0,1,2,3,4,5,6] ?_ ?_;focus (decide +kernel))|(first|((first|apply qwd|apply qa1|apply qa2|apply qh1|apply qm1|apply qm2|apply qm3|apply qg1 rfl|apply qcd);(try intro K hk);focus (simp only [lvX63B_59,mkT,go_sem,Nat.reduceEqDiff,Nat.reduceAdd,Nat.reduceLeDiff,Nat.reduceLT,↓reduceIte,reduceCtorEq,exl,hb,hn,encS_eq,ex_St,encTks_len,encPrs_len,tok_app53n,List.length_nil,List.length_cons,List.length_append,Int.reduceEq,decide_true,decide_false,Bool.and_true,hsl1];first|exact rfl|((repeat refine ai ?_);intros;apply hk;clear hk K)))|apply qw1|refine qwc lvX63B_59 ?_|apply qt1|apply qw5|apply qw2|apply qt3|apply qt4|apply qt6|apply qw4|apply qj1|apply qj2|apply qj3|apply qj4|apply qu1|apply qne|(refine qj6 ?_ ?_<;>intro hc<;>(try simp only [hc])<;>(try simp only [decide_eq_true_eq,decide_eq_false_iff_not] at hc)<;>(try (exfalso;omega)))|(refine qk1 ?_ ?_;focus (repeat (first|exact qsub0|(refine qsub1 ?_ ?_;focus (simp only [go_sem,Nat.reduceEqDiff,↓reduceIte,reduceCtorEq])))))))
   all_goals first
    | exact hQ (hsp (by first|(left;simp only [List.length_append,List.length_singleton];omega)|(right;omega)|(left;omega)|(simp;omega))) _ _ rfl rfl rfl
    | (refine s_againR ((k+1,⟨⟨0,ng,na,ns⟩,[],ps,out++[tkEnd tg]⟩,false)) (fun i=>if i=0 then 5 else i) ?_ ?_ ?_ ?_ ?_ ?_<;>(first|omega|(dsimp only;omega)|(intro i hi;(try dsimp only);(repeat' split)<;>omega)|(intro i j hi hj h;(try dsimp only at h);(repeat' split at h)<;>omega)|skip)
       all_goals first
        | (unfold good63;exact ⟨by dsimp only;omega,hst (by first|omega|(simp only [List.length_append,List.length_singleton];omega)) (by first|omega|simp),by first|exact fun _=>rfl|(intro h;cases h)⟩)
        | (unfold mu63;dsimp only;omega)
        | (simp [T63,M63,fitsTR,fitsMR,PV.ren,renL,MB.ren,upd_def,PV.nmb,nmbL,MB.nmb,encS_mk,tkEnd];done))
 · obtain rfl:ps=[]:=hpb rfl
   simp only [T63,M63,mkS,mkT,mkM,cond_true,List.cons_append,List.nil_append]
   repeat' (first|(refine qw10 [1] [0,1,2,3,4] [0,1,2,3,4,5,6] ?_ ?_;focus (decide +kernel))|(first|((first|apply qwd|apply qa1|apply qa2|apply qh1|apply qm1|apply qm2|apply qm3|apply qg1 rfl|apply qcd);(try intro K hk);focus (simp only [lvX63B_59,mkT,go_sem,Nat.reduceEqDiff,Nat.reduceAdd,Nat.reduceLeDiff,Nat.reduceLT,↓reduceIte,reduceCtorEq,exl,hb,hn,encS_eq,ex_St,encTks_len,tok_app53n,List.length_nil,List.length_cons,List.length_append,Int.reduceEq,decide_true,decide_false,Bool.and_true,hsl1];first|exact rfl|((repeat refine ai ?_);intros;apply hk;clear hk K)))|apply qw1|refine qwc lvX63B_59 ?_|apply qt1|apply qw5|apply qw2|apply qt3|apply qt4|apply qt6|apply qw4|apply qj1|apply qj2|apply qj3|apply qj4|apply qu1|apply qne|(refine qj6 ?_ ?_<;>intro hc<;>(try simp only [hc])<;>(try simp only [decide_eq_true_eq,decide_eq_false_iff_not] at hc)<;>(try (exfalso;omega)))|(refine qk1 ?_ ?_;focus (repeat (first|exact qsub0|(refine qsub1 ?_ ?_;focus (simp only [go_sem,Nat.reduceEqDiff,↓reduceIte,reduceCtorEq])))))))
   all_goals first
    | exact hQ (hsp (by first|(left;simp only [List.length_append,List.length_singleton];omega)|(right;omega)|(left;omega)|(simp;omega))) _ _ rfl rfl rfl
    | (refine s_againR ((k+1,⟨⟨0,ng,na,ns⟩,[],[],out++[tkEnd tg]⟩,true)) (fun i=>if i=0 then 5 else i) ?_ ?_ ?_ ?_ ?_ ?_<;>(first|omega|(dsimp only;omega)|(intro i hi;(try dsimp only);(repeat' split)<;>omega)|(intro i j hi hj h;(try dsimp only at h);(repeat' split at h)<;>omega)|skip)
       all_goals first
        | (unfold good63;exact ⟨by dsimp only;omega,hst (by first|omega|(simp only [List.length_append,List.length_singleton];omega)) (by first|omega|simp),by first|exact fun _=>rfl|(intro h;cases h)⟩)
        | (unfold mu63;dsimp only;omega)
        | (simp [T63,M63,fitsTR,fitsMR,PV.ren,renL,MB.ren,upd_def,PV.nmb,nmbL,MB.nmb,encS_mk,encPrs_nil,tkEnd];done))
set_option maxHeartbeats 40000000 in
theorem w63_6 {s:Bs} {k:Nat} {m:Int} {tg ta:Bs} {ts:Bool} {buf:Bs} {ps:List (Bs×Bs)} {out:List TokD} {pb:Bool} {b:UInt8} {n:Int} {ng na:Bs} {ns:Bool} {Q:AX→AS→Prop}
 (hsl:s.length≤1048576) (hkl:k<s.length) (hb:s.getD k 0=b) (hn:step ⟨m,tg,ta,ts⟩ b=⟨n,ng,na,ns⟩) (hx:TsAt s k ⟨⟨m,tg,ta,ts⟩,buf,ps,out⟩)
 (hpb:pb=true→ps=[]) (hQ:tokM s=none→ ∀ σ j,σ.tmp 2= .own j→σ.mem j=some (.row 29 4 [])→σ.tmp 3= .bool false→Q .ret σ) (hm:m=14) (hn0:n=9):Round63 s (k,⟨⟨m,tg,ta,ts⟩,buf,ps,out⟩,pb) Q:=by
 have hoS:okS ⟨m,tg,ta,ts⟩:=okS_of hx.v
 have hoN:=okS_of (stV_step ⟨m,tg,ta,ts⟩ b)
 rw [hn] at hoN
 have hlo:out.length≤60:=hx.lo
 have hlp:ps.length≤60:=hx.lp
 have hbr:buf.length≤k:=hx.buf
 have hles:m=14→buf≠[]:=hx.less
 have hz:=ts_6 (buf:=buf) (ps:=ps) (out:=out) hn hm hn0
 have hst:=fun h1 h2=>hx.step hkl ((congrArg (tsStep _) hb).trans hz) h1 h2
 have hsp:=fun h1=>hx.stop hkl ((congrArg (tsStep _) hb).trans hz) h1
 clear hx
 try dsimp only at hst hsp
 have hbl:=byte_lt s k
 rw [hb] at hbl
 have hsl1:=sl_byte hkl
 rw [hb] at hsl1
 subst hm hn0
 have hpl:=putTk_len out (tkScr buf.dropLast)
 have hpe:putTk out ⟨5,[],buf.dropLast,[]⟩=putTk out (tkScr buf.dropLast):=rfl
 have hdl:=cut_last (hles rfl)
 have hbp:0<buf.length:=List.length_pos_iff.2 (hles rfl)
 unfold Round63 body63
 simp only [Try.f59,firstLoop,Option.getD_some,G63,A63]
 cases pb
 · simp only [T63,M63,mkS,mkT,mkM,cond_false,List.append_nil]
   repeat' (first|(refine qw10 [1] [0,1,2,3,4] [0,1,2,3,4,5,6] ?_ ?_;focus (decide +kernel))|(first|((first|apply qwd|apply qa1|apply qa2|apply qh1|apply qm1|apply qm2|apply qm3|apply qg1 rfl|apply qcd);(try intro K hk);focus (simp only [lvX63B_59,mkT,go_sem,Nat.reduceEqDiff,Nat.reduceAdd,Nat.reduceLeDiff,Nat.reduceLT,↓reduceIte,reduceCtorEq,hpe,hdl,exl,encTks_iff,hb,hn,encS_eq,ex_St,encTks_len,encPrs_len,List.length_nil,List.length_cons,Int.reduceEq,Int.reduceLE,decide_true,decide_false,Bool.and_true,Bool.and_false,hsl1];first|exact rfl|((repeat refine ai ?_);intros;apply hk;clear hk K)))|apply qw1|refine qwc lvX63B_59 ?_|apply qt1|apply qw5|apply qw2|apply qt3|apply qt4|apply qt6|apply qw4|apply qj1|apply qj2|apply qj3|apply qj4|apply qj5|apply qu1|apply qne|(refine qj6 ?_ ?_<;>intro hc<;>(try simp only [hc])<;>(try simp only [decide_eq_true_eq,decide_eq_false_iff_not] at hc)<;>(try (exfalso;omega)))|(refine qk1 ?_ ?_;focus (repeat (first|exact qsub0|(refine qsub1 ?_ ?_;focus (simp only [go_sem,Nat.reduceEqDiff,↓reduceIte,reduceCtorEq])))))))
   all_goals first
    | exact hQ (hsp (by first|(left;simp only [List.length_append,List.length_singleton];omega)|(right;omega)|(left;omega)|(simp;omega))) _ _ rfl rfl rfl
    | (refine s_againR ((k+1,⟨⟨9,ng,na,ns⟩,[],ps,putTk out (tkScr buf.dropLast)⟩,false)) (fun i=>if i=0 then 4 else i) ?_ ?_ ?_ ?_ ?_ ?_<;>(first|omega|(dsimp only;omega)|(intro i hi;(try dsimp only);(repeat' split)<;>omega)|(intro i j hi hj h;(try dsimp only at h);(repeat' split at h)<;>omega)|skip)
       all_goals first
        | (unfold good63;exact ⟨by dsimp only;omega,hst (by first|omega|(simp only [List.length_append,List.length_singleton];omega)) (by first|omega|simp),by first|exact fun _=>rfl|(intro h;cases h)⟩)
        | (unfold mu63;dsimp only;omega)
        | (simp [T63,M63,fitsTR,fitsMR,PV.ren,renL,MB.ren,upd_def,PV.nmb,nmbL,MB.nmb,encS_mk,tkScr];done))
 · obtain rfl:ps=[]:=hpb rfl
   simp only [T63,M63,mkS,mkT,mkM,cond_true,List.cons_append,List.nil_append]
   repeat' (first|(refine qw10 [1] [0,1,2,3,4] [0,1,2,3,4,5,6] ?_ ?_;focus (decide +kernel))|(first|((first|apply qwd|apply qa1|apply qa2|apply qh1|apply qm1|apply qm2|apply qm3|apply qg1 rfl|apply qcd);(try intro K hk);focus (simp only [lvX63B_59,mkT,go_sem,Nat.reduceEqDiff,Nat.reduceAdd,Nat.reduceLeDiff,Nat.reduceLT,↓reduceIte,reduceCtorEq,hpe,hdl,exl,encTks_iff,hb,hn,encS_eq,ex_St,encTks_len,List.length_nil,List.length_cons,Int.reduceEq,Int.reduceLE,decide_true,decide_false,Bool.and_true,Bool.and_false,hsl1];first|exact rfl|((repeat refine ai ?_);intros;apply hk;clear hk K)))|apply qw1|refine qwc lvX63B_59 ?_|apply qt1|apply qw5|apply qw2|apply qt3|apply qt4|apply qt6|apply qw4|apply qj1|apply qj2|apply qj3|apply qj4|apply qj5|apply qu1|apply qne|(refine qj6 ?_ ?_<;>intro hc<;>(try simp only [hc])<;>(try simp only [decide_eq_true_eq,decide_eq_false_iff_not] at hc)<;>(try (exfalso;omega)))|(refine qk1 ?_ ?_;focus (repeat (first|exact qsub0|(refine qsub1 ?_ ?_;focus (simp only [go_sem,Nat.reduceEqDiff,↓reduceIte,reduceCtorEq])))))))
   all_goals first
    | exact hQ (hsp (by first|(left;simp only [List.length_append,List.length_singleton];omega)|(right;omega)|(left;omega)|(simp;omega))) _ _ rfl rfl rfl
    | (refine s_againR ((k+1,⟨⟨9,ng,na,ns⟩,[],[],putTk out (tkScr buf.dropLast)⟩,true)) (fun i=>if i=0 then 4 else i) ?_ ?_ ?_ ?_ ?_ ?_<;>(first|omega|(dsimp only;omega)|(intro i hi;(try dsimp only);(repeat' split)<;>omega)|(intro i j hi hj h;(try dsimp only at h);(repeat' split at h)<;>omega)|skip)
       all_goals first
        | (unfold good63;exact ⟨by dsimp only;omega,hst (by first|omega|(simp only [List.length_append,List.length_singleton];omega)) (by first|omega|simp),by first|exact fun _=>rfl|(intro h;cases h)⟩)
        | (unfold mu63;dsimp only;omega)
        | (simp [T63,M63,fitsTR,fitsMR,PV.ren,renL,MB.ren,upd_def,PV.nmb,nmbL,MB.nmb,encS_mk,encPrs_nil,tkScr];done))
end Go.Proofs.Ytnbjogilidfkdaa

/- The reference's reading of tokens: tags. -/
namespace Go.Proofs.Ytnbjogilidfkdaa
attribute [local irreducible] awp arun acalm FinP Fin AX.then AX.inBlock Again aG gsel amix amixN amixC aop aopc aopd cutK
attribute [local go_sem] aBSliceD aSlice aSliceC boundOf aMk aCall aCallC aLenL aLen aPick_t aPick_f aNil aAlloc aBox aBuild bldPV aBSlice bsPV aApp newsOf destOf drp aConvX aConv aConvInt aLoad cellsAt aStore cellsPV setAt aFld aField aIdx aIndex aUn aBin' aBin aMax aExtract pvOf PV.isCell nmbL PV.nmb List.map_cons List.map_nil List.all_cons List.all_nil Bool.and_true Bool.true_and if_true if_false List.getD_cons_zero List.getD_cons_succ List.getD_nil Option.isSome_some true_and and_true and_self eq_self true_or or_true List.drop_zero List.drop_succ_cons List.drop_nil List.take_zero List.take_succ_cons List.take_nil List.length_cons List.length_nil List.length_map Option.getD_some Option.getD_none List.nil_append List.cons_append List.append_nil Option.some.injEq exists_eq_left' List.getElem?_cons_zero List.getElem?_cons_succ Int.toNat_natCast Int.natCast_inj toNat_succ Nat.zero_add res res1 resC owns owns1 ownsC List.flatMap_cons List.flatMap_nil List.flatten_cons List.flatten_nil List.mem_cons List.not_mem_nil or_false false_or forall_eq forall_eq_or_imp isFro frz frz1 pureC tabA isBld List.cons.injEq PV.seq.injEq PV.int.injEq PV.str.injEq PV.bool.injEq PV.agg.injEq inR tab Γof aRes packR Option.map_some Option.map_none rel Prod.exists exists_and_left exists_eq_left and_assoc beq_self_eq_true Bool.not_true Bool.not_false decide_true decide_false List.set_cons_zero List.set_cons_succ rst_nil rst_cons
attribute [local go_sem ↓] evT upd_def aop aopc aopd
set_option maxRecDepth 100000
set_option linter.unusedVariables false
set_option linter.unusedSimpArgs false
open Go.RowKit
def lvX63C_59:Nat→List Nat
 | 0=>[0]
 | 1=>[0,4]
 | 2=>[0,4,5]
 | 3=>[0,4,5,6]
 | 4=>[0,4,5,6,7]
 | 5=>[0,4,5,6,7,8]
 | 6=>[0,4,5,6,7,8,17]
 | 7=>[0,4,5,6,7,8]
 | 8=>[0,4,5,6,7,8,9]
 | 9=>[0,4,5,6,7,8,9,10]
 | 10=>[0,4,5,6,7,8,9,10,30]
 | 11=>[0,4,5,8,9]
 | 12=>[0,4,5,6,8,9]
 | 13=>[0,4,5,6,7,8,9]
 | 14=>[0,4,5,6,7,8,9,10,45]
 | 15=>[0,4,5,7,8,9]
 | 16=>[0,4,5,6,7,8,9]
 | 17=>[0,4,5,6,7,8,9,10,59]
 | 18=>[0,4,5,7,8,9]
 | 19=>[0,4,5,6,7,8,9]
 | 20=>[0,4,5,6,7,8,9,10,74]
 | 21=>[0,4,5,7,8,9]
 | 22=>[0,4,5,7,8,9]
 | 23=>[0,4,5,6,7,8,9]
 | 24=>[0,4,5,6,7,8,9,10,99]
 | 25=>[0,4,5,7,8,9]
 | 26=>[0,4,5,6,7,8,9]
 | 27=>[0,4,5,6,7,8,9,10,112]
 | 28=>[0,4,5,7,8,9]
 | 29=>[0,4,5,6,7,8,9]
 | 30=>[0,4,5,6,7,8,9,10,129]
 | 31=>[0,4,5,6,7,8,9]
 | 32=>[0,4,5,6,7,8]
 | 33=>[0,4,5,6,7,8,158]
 | 34=>[2,3]
 | 35=>[0,4,5]
 | 36=>[4,177]
 | 37=>[2,3]
 | 38=>[2,3]
 | _=>[]
--LV=X63C
set_option maxHeartbeats 40000000 in
theorem w63_4 {s:Bs} {k:Nat} {m:Int} {tg ta:Bs} {ts:Bool} {buf:Bs} {ps:List (Bs×Bs)} {out:List TokD} {pb:Bool} {b:UInt8} {n:Int} {ng na:Bs} {ns:Bool} {Q:AX→AS→Prop}
 (hsl:s.length≤1048576) (hkl:k<s.length) (hb:s.getD k 0=b) (hn:step ⟨m,tg,ta,ts⟩ b=⟨n,ng,na,ns⟩) (hx:TsAt s k ⟨⟨m,tg,ta,ts⟩,buf,ps,out⟩)
 (hpb:pb=true→ps=[]) (hQ:tokM s=none→ ∀ σ j,σ.tmp 2= .own j→σ.mem j=some (.row 29 4 [])→σ.tmp 3= .bool false→Q .ret σ) (hm:2≤m∧m≤8) (hn0:n=0):Round63 s (k,⟨⟨m,tg,ta,ts⟩,buf,ps,out⟩,pb) Q:=by
 have hoS:okS ⟨m,tg,ta,ts⟩:=okS_of hx.v
 have hoN:=okS_of (stV_step ⟨m,tg,ta,ts⟩ b)
 rw [hn] at hoN
 have hlo:out.length≤60:=hx.lo
 have hlp:ps.length≤60:=hx.lp
 have hbr:buf.length≤k:=hx.buf
 have hles:m=14→buf≠[]:=hx.less
 have hz:=ts_4' (buf:=buf) (ps:=ps) (out:=out) hn hm (by omega)
 have hst:=fun h1 h2=>hx.step hkl ((congrArg (tsStep _) hb).trans hz) h1 h2
 have hsp:=fun h1=>hx.stop hkl ((congrArg (tsStep _) hb).trans hz) h1
 clear hx
 try dsimp only at hst hsp
 have hbl:=byte_lt s k
 rw [hb] at hbl
 have hsl1:=sl_byte hkl
 rw [hb] at hsl1
 subst hn0
 have hm0:decide (m=0)=false:=decide_eq_false (by omega)
 have hm10:decide (m=10)=false:=decide_eq_false (by omega)
 have hm9:decide (m=9)=false:=decide_eq_false (by omega)
 have h28:(decide (2≤m) && decide (m≤8))=true:=by rw [decide_eq_true hm.1,decide_eq_true hm.2];rfl
 have hcl:=closeP_len m ta buf ps
 unfold Round63 body63
 simp only [Try.f59,firstLoop,Option.getD_some,G63,A63]
 cases pb
 · simp only [T63,M63,mkS,mkT,mkM,cond_false,List.append_nil]
   repeat' (first|(refine qw10 [1] [0,1,2,3,4] [0,1,2,3,4,5,6] ?_ ?_;focus (decide +kernel))|(first|((first|apply qwd|apply qa1|apply qa2|apply qh1|apply qm1|apply qm2|apply qm3|apply qg1 rfl|apply qcd);(try intro K hk);focus (simp only [lvX63C_59,mkT,go_sem,Nat.reduceEqDiff,Nat.reduceAdd,Nat.reduceLeDiff,Nat.reduceLT,↓reduceIte,reduceCtorEq,hm0,hm10,hm9,h28,exl,hb,hn,encS_eq,ex_St,ex_PSB,encPrs_iff,encTks_len,encPrs_len,encTks_pt,List.length_nil,List.length_cons,List.length_append,decide_true,Bool.and_true,hsl1];first|exact rfl|((repeat refine ai ?_);intros;apply hk;clear hk K)))|apply qw1|refine qwc lvX63C_59 ?_|apply qt1|apply qw5|apply qw2|apply qt3|apply qt4|apply qt6|apply qw4|apply qj1|apply qj2|apply qj3|apply qj4|apply qu1|apply qne|(refine qj6 ?_ ?_<;>intro hc<;>(try simp only [hc])<;>(try simp only [decide_eq_true_eq,decide_eq_false_iff_not] at hc)<;>(try (exfalso;omega)))|(refine qk1 ?_ ?_;focus (repeat (first|exact qsub0|(refine qsub1 ?_ ?_;focus (simp only [go_sem,Nat.reduceEqDiff,↓reduceIte,reduceCtorEq])))))))
   all_goals first
    | exact hQ (hsp (by first|(left;simp only [List.length_append,List.length_singleton];omega)|(right;omega)|(left;omega)|(simp;omega))) _ _ rfl rfl rfl
    | (refine s_againR ((k+1,⟨⟨0,ng,na,ns⟩,[],closeP m ta buf ps,out++[tkOpen tg (closeP m ta buf ps)]⟩,false)) (fun i=>if i=0 then 5 else i) ?_ ?_ ?_ ?_ ?_ ?_<;>(first|omega|(dsimp only;omega)|(intro i hi;(try dsimp only);(repeat' split)<;>omega)|(intro i j hi hj h;(try dsimp only at h);(repeat' split at h)<;>omega)|skip)
       all_goals first
        | (unfold good63;exact ⟨by dsimp only;omega,hst (by first|omega|(simp only [List.length_append,List.length_singleton];omega)) (by first|omega|simp),by first|exact fun _=>rfl|(intro h;cases h)⟩)
        | (unfold mu63;dsimp only;omega)
        | (simp [T63,M63,fitsTR,fitsMR,PV.ren,renL,MB.ren,upd_def,PV.nmb,nmbL,MB.nmb,encS_mk,tkOpen];done))
 · obtain rfl:ps=[]:=hpb rfl
   simp only [T63,M63,mkS,mkT,mkM,cond_true,List.cons_append,List.nil_append]
   repeat' (first|(refine qw10 [1] [0,1,2,3,4] [0,1,2,3,4,5,6] ?_ ?_;focus (decide +kernel))|(first|((first|apply qwd|apply qa1|apply qa2|apply qh1|apply qm1|apply qm2|apply qm3|apply qg1 rfl|apply qcd);(try intro K hk);focus (simp only [lvX63C_59,mkT,go_sem,Nat.reduceEqDiff,Nat.reduceAdd,Nat.reduceLeDiff,Nat.reduceLT,↓reduceIte,reduceCtorEq,hm0,hm10,hm9,h28,exl,prs_nil,hb,hn,encS_eq,ex_St,ex_PSB,encTks_len,encPrs_len,encTks_pt,List.length_nil,List.length_cons,List.length_append,decide_true,Bool.and_true,hsl1];first|exact rfl|((repeat refine ai ?_);intros;apply hk;clear hk K)))|apply qw1|refine qwc lvX63C_59 ?_|apply qt1|apply qw5|apply qw2|apply qt3|apply qt4|apply qt6|apply qw4|apply qj1|apply qj2|apply qj3|apply qj4|apply qu1|apply qne|(refine qj6 ?_ ?_<;>intro hc<;>(try simp only [hc])<;>(try simp only [decide_eq_true_eq,decide_eq_false_iff_not] at hc)<;>(try (exfalso;omega)))|(refine qk1 ?_ ?_;focus (repeat (first|exact qsub0|(refine qsub1 ?_ ?_;focus (simp only [go_sem,Nat.reduceEqDiff,↓reduceIte,reduceCtorEq])))))))
   all_goals first
    | exact hQ (hsp (by first|(left;simp only [List.length_append,List.length_singleton];omega)|(right;omega)|(left;omega)|(simp;omega))) _ _ rfl rfl rfl
    | (refine s_againR ((k+1,⟨⟨0,ng,na,ns⟩,[],closeP m ta buf [],out++[tkOpen tg (closeP m ta buf [])]⟩,false)) (fun i=>if i=0 then 5 else i) ?_ ?_ ?_ ?_ ?_ ?_<;>(first|omega|(dsimp only;omega)|(intro i hi;(try dsimp only);(repeat' split)<;>omega)|(intro i j hi hj h;(try dsimp only at h);(repeat' split at h)<;>omega)|skip)
       all_goals first
        | (unfold good63;exact ⟨by dsimp only;omega,hst (by first|omega|(simp only [List.length_append,List.length_singleton];omega)) (by first|omega|simp),by first|exact fun _=>rfl|(intro h;cases h)⟩)
        | (unfold mu63;dsimp only;omega)
        | (simp [T63,M63,fitsTR,fitsMR,PV.ren,renL,MB.ren,upd_def,PV.nmb,nmbL,MB.nmb,encS_mk,tkOpen];done))
set_option maxHeartbeats 40000000 in
theorem w63_4b {s:Bs} {k:Nat} {m:Int} {tg ta:Bs} {ts:Bool} {buf:Bs} {ps:List (Bs×Bs)} {out:List TokD} {pb:Bool} {b:UInt8} {n:Int} {ng na:Bs} {ns:Bool} {Q:AX→AS→Prop}
 (hsl:s.length≤1048576) (hkl:k<s.length) (hb:s.getD k 0=b) (hn:step ⟨m,tg,ta,ts⟩ b=⟨n,ng,na,ns⟩) (hx:TsAt s k ⟨⟨m,tg,ta,ts⟩,buf,ps,out⟩)
 (hpb:pb=true→ps=[]) (hQ:tokM s=none→ ∀ σ j,σ.tmp 2= .own j→σ.mem j=some (.row 29 4 [])→σ.tmp 3= .bool false→Q .ret σ) (hm:2≤m∧m≤8) (hn0:n=11):Round63 s (k,⟨⟨m,tg,ta,ts⟩,buf,ps,out⟩,pb) Q:=by
 have hoS:okS ⟨m,tg,ta,ts⟩:=okS_of hx.v
 have hoN:=okS_of (stV_step ⟨m,tg,ta,ts⟩ b)
 rw [hn] at hoN
 have hlo:out.length≤60:=hx.lo
 have hlp:ps.length≤60:=hx.lp
 have hbr:buf.length≤k:=hx.buf
 have hles:m=14→buf≠[]:=hx.less
 have hz:=ts_4' (buf:=buf) (ps:=ps) (out:=out) hn hm (by omega)
 have hst:=fun h1 h2=>hx.step hkl ((congrArg (tsStep _) hb).trans hz) h1 h2
 have hsp:=fun h1=>hx.stop hkl ((congrArg (tsStep _) hb).trans hz) h1
 clear hx
 try dsimp only at hst hsp
 have hbl:=byte_lt s k
 rw [hb] at hbl
 have hsl1:=sl_byte hkl
 rw [hb] at hsl1
 subst hn0
 have hm0:decide (m=0)=false:=decide_eq_false (by omega)
 have hm10:decide (m=10)=false:=decide_eq_false (by omega)
 have hm9:decide (m=9)=false:=decide_eq_false (by omega)
 have h28:(decide (2≤m) && decide (m≤8))=true:=by rw [decide_eq_true hm.1,decide_eq_true hm.2];rfl
 have hcl:=closeP_len m ta buf ps
 unfold Round63 body63
 simp only [Try.f59,firstLoop,Option.getD_some,G63,A63]
 cases pb
 · simp only [T63,M63,mkS,mkT,mkM,cond_false,List.append_nil]
   repeat' (first|(refine qw10 [1] [0,1,2,3,4] [0,1,2,3,4,5,6] ?_ ?_;focus (decide +kernel))|(first|((first|apply qwd|apply qa1|apply qa2|apply qh1|apply qm1|apply qm2|apply qm3|apply qg1 rfl|apply qcd);(try intro K hk);focus (simp only [lvX63C_59,mkT,go_sem,Nat.reduceEqDiff,Nat.reduceAdd,Nat.reduceLeDiff,Nat.reduceLT,↓reduceIte,reduceCtorEq,hm0,hm10,hm9,h28,exl,hb,hn,encS_eq,ex_St,ex_PSB,encPrs_iff,encTks_len,encPrs_len,encTks_pt,List.length_nil,List.length_cons,List.length_append,Int.reduceEq,decide_true,decide_false,Bool.and_true,hsl1];first|exact rfl|((repeat refine ai ?_);intros;apply hk;clear hk K)))|apply qw1|refine qwc lvX63C_59 ?_|apply qt1|apply qw5|apply qw2|apply qt3|apply qt4|apply qt6|apply qw4|apply qj1|apply qj2|apply qj3|apply qj4|apply qu1|apply qne|(refine qj6 ?_ ?_<;>intro hc<;>(try simp only [hc])<;>(try simp only [decide_eq_true_eq,decide_eq_false_iff_not] at hc)<;>(try (exfalso;omega)))|(refine qk1 ?_ ?_;focus (repeat (first|exact qsub0|(refine qsub1 ?_ ?_;focus (simp only [go_sem,Nat.reduceEqDiff,↓reduceIte,reduceCtorEq])))))))
   all_goals first
    | exact hQ (hsp (by first|(left;simp only [List.length_append,List.length_singleton];omega)|(right;omega)|(left;omega)|(simp;omega))) _ _ rfl rfl rfl
    | (refine s_againR ((k+1,⟨⟨11,ng,na,ns⟩,[],closeP m ta buf ps,out++[tkOpen tg (closeP m ta buf ps)]⟩,false)) (fun i=>if i=0 then 5 else i) ?_ ?_ ?_ ?_ ?_ ?_<;>(first|omega|(dsimp only;omega)|(intro i hi;(try dsimp only);(repeat' split)<;>omega)|(intro i j hi hj h;(try dsimp only at h);(repeat' split at h)<;>omega)|skip)
       all_goals first
        | (unfold good63;exact ⟨by dsimp only;omega,hst (by first|omega|(simp only [List.length_append,List.length_singleton];omega)) (by first|omega|simp),by first|exact fun _=>rfl|(intro h;cases h)⟩)
        | (unfold mu63;dsimp only;omega)
        | (simp [T63,M63,fitsTR,fitsMR,PV.ren,renL,MB.ren,upd_def,PV.nmb,nmbL,MB.nmb,encS_mk,tkOpen];done))
 · obtain rfl:ps=[]:=hpb rfl
   simp only [T63,M63,mkS,mkT,mkM,cond_true,List.cons_append,List.nil_append]
   repeat' (first|(refine qw10 [1] [0,1,2,3,4] [0,1,2,3,4,5,6] ?_ ?_;focus (decide +kernel))|(first|((first|apply qwd|apply qa1|apply qa2|apply qh1|apply qm1|apply qm2|apply qm3|apply qg1 rfl|apply qcd);(try intro K hk);focus (simp only [lvX63C_59,mkT,go_sem,Nat.reduceEqDiff,Nat.reduceAdd,Nat.reduceLeDiff,Nat.reduceLT,↓reduceIte,reduceCtorEq,hm0,hm10,hm9,h28,exl,prs_nil,hb,hn,encS_eq,ex_St,ex_PSB,encTks_len,encPrs_len,encTks_pt,List.length_nil,List.length_cons,List.length_append,Int.reduceEq,decide_true,decide_false,Bool.and_true,hsl1];first|exact rfl|((repeat refine ai ?_);intros;apply hk;clear hk K)))|apply qw1|refine qwc lvX63C_59 ?_|apply qt1|apply qw5|apply qw2|apply qt3|apply qt4|apply qt6|apply qw4|apply qj1|apply qj2|apply qj3|apply qj4|apply qu1|apply qne|(refine qj6 ?_ ?_<;>intro hc<;>(try simp only [hc])<;>(try simp only [decide_eq_true_eq,decide_eq_false_iff_not] at hc)<;>(try (exfalso;omega)))|(refine qk1 ?_ ?_;focus (repeat (first|exact qsub0|(refine qsub1 ?_ ?_;focus (simp only [go_sem,Nat.reduceEqDiff,↓reduceIte,reduceCtorEq])))))))
   all_goals first
    | exact hQ (hsp (by first|(left;simp only [List.length_append,List.length_singleton];omega)|(right;omega)|(left;omega)|(simp;omega))) _ _ rfl rfl rfl
    | (refine s_againR ((k+1,⟨⟨11,ng,na,ns⟩,[],closeP m ta buf [],out++[tkOpen tg (closeP m ta buf [])]⟩,false)) (fun i=>if i=0 then 5 else i) ?_ ?_ ?_ ?_ ?_ ?_<;>(first|omega|(dsimp only;omega)|(intro i hi;(try dsimp only);(repeat' split)<;>omega)|(intro i j hi hj h;(try dsimp only at h);(repeat' split at h)<;>omega)|skip)
       all_goals first
        | (unfold good63;exact ⟨by dsimp only;omega,hst (by first|omega|(simp only [List.length_append,List.length_singleton];omega)) (by first|omega|simp),by first|exact fun _=>rfl|(intro h;cases h)⟩)
        | (unfold mu63;dsimp only;omega)
        | (simp [T63,M63,fitsTR,fitsMR,PV.ren,renL,MB.ren,upd_def,PV.nmb,nmbL,MB.nmb,encS_mk,tkOpen];done))
set_option maxHeartbeats 40000000 in
theorem w63_5 {s:Bs} {k:Nat} {m:Int} {tg ta:Bs} {ts:Bool} {buf:Bs} {ps:List (Bs×Bs)} {out:List TokD} {pb:Bool} {b:UInt8} {n:Int} {ng na:Bs} {ns:Bool} {Q:AX→AS→Prop}
 (hsl:s.length≤1048576) (hkl:k<s.length) (hb:s.getD k 0=b) (hn:step ⟨m,tg,ta,ts⟩ b=⟨n,ng,na,ns⟩) (hx:TsAt s k ⟨⟨m,tg,ta,ts⟩,buf,ps,out⟩)
 (hpb:pb=true→ps=[]) (hQ:tokM s=none→ ∀ σ j,σ.tmp 2= .own j→σ.mem j=some (.row 29 4 [])→σ.tmp 3= .bool false→Q .ret σ) (hm:2≤m∧m≤8) (hn0:n=3):Round63 s (k,⟨⟨m,tg,ta,ts⟩,buf,ps,out⟩,pb) Q:=by
 have hoS:okS ⟨m,tg,ta,ts⟩:=okS_of hx.v
 have hoN:=okS_of (stV_step ⟨m,tg,ta,ts⟩ b)
 rw [hn] at hoN
 have hlo:out.length≤60:=hx.lo
 have hlp:ps.length≤60:=hx.lp
 have hbr:buf.length≤k:=hx.buf
 have hles:m=14→buf≠[]:=hx.less
 have hz:=ts_5' (buf:=buf) (ps:=ps) (out:=out) hn hm hn0
 have hst:=fun h1 h2=>hx.step hkl ((congrArg (tsStep _) hb).trans hz) h1 h2
 have hsp:=fun h1=>hx.stop hkl ((congrArg (tsStep _) hb).trans hz) h1
 clear hx
 try dsimp only at hst hsp
 have hbl:=byte_lt s k
 rw [hb] at hbl
 have hsl1:=sl_byte hkl
 rw [hb] at hsl1
 subst hn0
 have hm0:decide (m=0)=false:=decide_eq_false (by omega)
 have hm10:decide (m=10)=false:=decide_eq_false (by omega)
 have hm9:decide (m=9)=false:=decide_eq_false (by omega)
 have h28:(decide (2≤m) && decide (m≤8))=true:=by rw [decide_eq_true hm.1,decide_eq_true hm.2];rfl
 have hcl:=closeP_len m ta buf ps
 unfold Round63 body63
 simp only [Try.f59,firstLoop,Option.getD_some,G63,A63]
 cases pb
 · simp only [T63,M63,mkS,mkT,mkM,cond_false,List.append_nil]
   repeat' (first|(refine qw10 [1] [0,1,2,3,4] [0,1,2,3,4,5,6] ?_ ?_;focus (decide +kernel))|(first|((first|apply qwd|apply qa1|apply qa2|apply qh1|apply qm1|apply qm2|apply qm3|apply qg1 rfl|apply qcd);(try intro K hk);focus (simp only [lvX63C_59,mkT,go_sem,Nat.reduceEqDiff,Nat.reduceAdd,Nat.reduceLeDiff,↓reduceIte,reduceCtorEq,hm0,hm10,hm9,h28,exl,hb,hn,encS_eq,ex_St,ex_PSB,encPrs_iff,encTks_len,encPrs_len,List.length_nil,List.length_cons,Int.reduceEq,decide_true,decide_false,Bool.and_true,hsl1];first|exact rfl|((repeat refine ai ?_);intros;apply hk;clear hk K)))|apply qw1|refine qwc lvX63C_59 ?_|apply qt1|apply qw5|apply qw2|apply qt3|apply qt4|apply qt6|apply qw4|apply qj1|apply qj2|apply qj4|apply qu1|apply qne|(refine qj6 ?_ ?_<;>intro hc<;>(try simp only [hc])<;>(try simp only [decide_eq_true_eq,decide_eq_false_iff_not] at hc)<;>(try (exfalso;omega)))|(refine qk1 ?_ ?_;focus (repeat (first|exact qsub0|(refine qsub1 ?_ ?_;focus (simp only [go_sem,Nat.reduceEqDiff,↓reduceIte,reduceCtorEq])))))))
   all_goals first
    | exact hQ (hsp (by first|(left;simp only [List.length_append,List.length_singleton];omega)|(right;omega)|(left;omega)|(simp;omega))) _ _ rfl rfl rfl
    | (refine s_again ((k+1,⟨⟨3,ng,na,ns⟩,[],closeP m ta buf ps,out⟩,false)) ?_ ?_ ?_<;>(first|omega|(dsimp only;omega)|skip)
       all_goals first
        | (unfold good63;exact ⟨by dsimp only;omega,hst (by first|omega|(simp only [List.length_append,List.length_singleton];omega)) (by first|omega|simp),by first|exact fun _=>rfl|(intro h;cases h)⟩)
        | (unfold mu63;dsimp only;omega)
        | (simp [T63,M63,fits,fitsT,fitsM,upd_def,PV.nmb,nmbL,MB.nmb,encS_mk];done))
 · obtain rfl:ps=[]:=hpb rfl
   simp only [T63,M63,mkS,mkT,mkM,cond_true,List.cons_append,List.nil_append]
   repeat' (first|(refine qw10 [1] [0,1,2,3,4] [0,1,2,3,4,5,6] ?_ ?_;focus (decide +kernel))|(first|((first|apply qwd|apply qa1|apply qa2|apply qh1|apply qm1|apply qm2|apply qm3|apply qg1 rfl|apply qcd);(try intro K hk);focus (simp only [lvX63C_59,mkT,go_sem,Nat.reduceEqDiff,Nat.reduceAdd,Nat.reduceLeDiff,↓reduceIte,reduceCtorEq,hm0,hm10,hm9,h28,exl,prs_nil,hb,hn,encS_eq,ex_St,ex_PSB,encTks_len,encPrs_len,List.length_nil,List.length_cons,Int.reduceEq,decide_true,decide_false,Bool.and_true,hsl1];first|exact rfl|((repeat refine ai ?_);intros;apply hk;clear hk K)))|apply qw1|refine qwc lvX63C_59 ?_|apply qt1|apply qw5|apply qw2|apply qt3|apply qt4|apply qt6|apply qw4|apply qj1|apply qj2|apply qj4|apply qu1|apply qne|(refine qj6 ?_ ?_<;>intro hc<;>(try simp only [hc])<;>(try simp only [decide_eq_true_eq,decide_eq_false_iff_not] at hc)<;>(try (exfalso;omega)))|(refine qk1 ?_ ?_;focus (repeat (first|exact qsub0|(refine qsub1 ?_ ?_;focus (simp only [go_sem,Nat.reduceEqDiff,↓reduceIte,reduceCtorEq])))))))
   all_goals first
    | exact hQ (hsp (by first|(left;simp only [List.length_append,List.length_singleton];omega)|(right;omega)|(left;omega)|(simp;omega))) _ _ rfl rfl rfl
    | (refine s_again ((k+1,⟨⟨3,ng,na,ns⟩,[],closeP m ta buf [],out⟩,false)) ?_ ?_ ?_<;>(first|omega|(dsimp only;omega)|skip)
       all_goals first
        | (unfold good63;exact ⟨by dsimp only;omega,hst (by first|omega|(simp only [List.length_append,List.length_singleton];omega)) (by first|omega|simp),by first|exact fun _=>rfl|(intro h;cases h)⟩)
        | (unfold mu63;dsimp only;omega)
        | (simp [T63,M63,fits,fitsT,fitsM,upd_def,PV.nmb,nmbL,MB.nmb,encS_mk];done))
end Go.Proofs.Ytnbjogilidfkdaa
