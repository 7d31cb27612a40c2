/- The reference's reading of tokens: bytes that are kept. -/
import Derived.Test.YtnbjogilidfkdaaHX63A

namespace Go.Proofs.Ytnbjogilidfkdaa
attribute [local irreducible] awp arun acalm FinP Fin AX.then AX.inBlock Again aG gsel amix amixN amixC aop aopc aopd cutK
attribute [local go_sem] aBSliceD aSlice aSliceC boundOf aMk aCall aCallC aLenL aLen aPick_t aPick_f aNil aAlloc aBox aBuild bldPV aBSlice bsPV aApp newsOf destOf drp aConvX aConv aConvInt aLoad cellsAt aStore cellsPV setAt aFld aField aIdx aIndex aUn aBin' aBin aMax aExtract pvOf PV.isCell nmbL PV.nmb List.map_cons List.map_nil List.all_cons List.all_nil Bool.and_true Bool.true_and if_true if_false List.getD_cons_zero List.getD_cons_succ List.getD_nil Option.isSome_some true_and and_true and_self eq_self true_or or_true List.drop_zero List.drop_succ_cons List.drop_nil List.take_zero List.take_succ_cons List.take_nil List.length_cons List.length_nil List.length_map Option.getD_some Option.getD_none List.nil_append List.cons_append List.append_nil Option.some.injEq exists_eq_left' List.getElem?_cons_zero List.getElem?_cons_succ Int.toNat_natCast Int.natCast_inj toNat_succ Nat.zero_add res res1 resC owns owns1 ownsC List.flatMap_cons List.flatMap_nil List.flatten_cons List.flatten_nil List.mem_cons List.not_mem_nil or_false false_or forall_eq forall_eq_or_imp isFro frz frz1 pureC tabA isBld List.cons.injEq PV.seq.injEq PV.int.injEq PV.str.injEq PV.bool.injEq PV.agg.injEq inR tab Γof aRes packR Option.map_some Option.map_none rel Prod.exists exists_and_left exists_eq_left and_assoc beq_self_eq_true Bool.not_true Bool.not_false decide_true decide_false List.set_cons_zero List.set_cons_succ rst_nil rst_cons
attribute [local go_sem ↓] evT upd_def aop aopc aopd
set_option maxRecDepth 100000
set_option linter.unusedVariables false
set_option linter.unusedSimpArgs false
open Go.RowKit
def lvX63D_59:Nat→List Nat
 | 0=>[0]
 | 1=>[0,4]
 | 2=>[0,4,5]
 | 3=>[0,4,5,6]
 | 4=>[0,4,5,6,7]
 | 5=>[0,4,5,6,7,8]
 | 6=>[0,4,5,6,7,8,17]
 | 7=>[0,4,5,6,7,8]
 | 8=>[0,4,5,6,7,8,9]
 | 9=>[0,4,5,6,7,8,9,10]
 | 10=>[0,4,5,6,7,8,9,10,30]
 | 11=>[0,4,5,8,9]
 | 12=>[0,4,5,6,8,9]
 | 13=>[0,4,5,6,7,8,9]
 | 14=>[0,4,5,6,7,8,9,10,45]
 | 15=>[0,4,5,7,8,9]
 | 16=>[0,4,5,6,7,8,9]
 | 17=>[0,4,5,6,7,8,9,10,59]
 | 18=>[0,4,5,7,8,9]
 | 19=>[0,4,5,6,7,8,9]
 | 20=>[0,4,5,6,7,8,9,10,74]
 | 21=>[0,4,5,7,8,9]
 | 22=>[0,4,5,7,8,9]
 | 23=>[0,4,5,6,7,8,9]
 | 24=>[0,4,5,6,7,8,9,10,99]
 | 25=>[0,4,5,7,8,9]
 | 26=>[0,4,5,6,7,8,9]
 | 27=>[0,4,5,6,7,8,9,10,112]
 | 28=>[0,4,5,7,8,9]
 | 29=>[0,4,5,6,7,8,9]
 | 30=>[0,4,5,6,7,8,9,10,129]
 | 31=>[0,4,5,6,7,8,9]
 | 32=>[0,4,5,6,7,8]
 | 33=>[0,4,5,6,7,8,158]
 | 34=>[2,3]
 | 35=>[0,4,5]
 | 36=>[4,177]
 | 37=>[2,3]
 | 38=>[2,3]
 | _=>[]
--LV=X63D
set_option maxHeartbeats 40000000 in
theorem w63_7a {s:Bs} {k:Nat} {m:Int} {tg ta:Bs} {ts:Bool} {buf:Bs} {ps:List (Bs×Bs)} {out:List TokD} {pb:Bool} {b:UInt8} {n:Int} {ng na:Bs} {ns:Bool} {Q:AX→AS→Prop}
 (hsl:s.length≤1048576) (hkl:k<s.length) (hb:s.getD k 0=b) (hn:step ⟨m,tg,ta,ts⟩ b=⟨n,ng,na,ns⟩) (hx:TsAt s k ⟨⟨m,tg,ta,ts⟩,buf,ps,out⟩)
 (hpb:pb=true→ps=[]) (hQ:tokM s=none→ ∀ σ j,σ.tmp 2= .own j→σ.mem j=some (.row 29 4 [])→σ.tmp 3= .bool false→Q .ret σ) (hm:m=0) (hn0:n≠1):Round63 s (k,⟨⟨m,tg,ta,ts⟩,buf,ps,out⟩,pb) Q:=by
 have hoS:okS ⟨m,tg,ta,ts⟩:=okS_of hx.v
 have hoN:=okS_of (stV_step ⟨m,tg,ta,ts⟩ b)
 rw [hn] at hoN
 have hlo:out.length≤60:=hx.lo
 have hlp:ps.length≤60:=hx.lp
 have hbr:buf.length≤k:=hx.buf
 have hles:m=14→buf≠[]:=hx.less
 have hz:=ts_7 (buf:=buf) (ps:=ps) (out:=out) hn ⟨by omega,by omega,by omega,by omega,by omega,by omega⟩ (by omega)
 have hst:=fun h1 h2=>hx.step hkl ((congrArg (tsStep _) hb).trans hz) h1 h2
 have hsp:=fun h1=>hx.stop hkl ((congrArg (tsStep _) hb).trans hz) h1
 clear hx
 try dsimp only at hst hsp
 have hbl:=byte_lt s k
 rw [hb] at hbl
 have hsl1:=sl_byte hkl
 rw [hb] at hsl1
 subst hm
 have hn1:decide (n=1)=false:=decide_eq_false (by omega)
 unfold Round63 body63
 simp only [Try.f59,firstLoop,Option.getD_some,G63,A63]
 cases pb
 · simp only [T63,M63,mkS,mkT,mkM,cond_false,List.append_nil]
   repeat' (first|(refine qw10 [1] [0,1,2,3,4] [0,1,2,3,4,5,6] ?_ ?_;focus (decide +kernel))|(first|((first|apply qwd|apply qa1|apply qa2|apply qh1|apply qm1|apply qm2|apply qm3|apply qg1 rfl|apply qcd);(try intro K hk);focus (simp only [lvX63D_59,mkT,go_sem,Nat.reduceEqDiff,Nat.reduceAdd,Nat.reduceLeDiff,↓reduceIte,reduceCtorEq,hn1,exl,hb,hn,encS_eq,ex_St,encTks_len,encPrs_len,List.length_nil,List.length_cons,Int.reduceEq,Int.reduceLE,decide_true,decide_false,Bool.and_true,hsl1];first|exact rfl|((repeat refine ai ?_);intros;apply hk;clear hk K)))|apply qw1|refine qwc lvX63D_59 ?_|apply qt1|apply qw5|apply qw2|apply qt4|apply qj1|apply qj2|apply qj3|apply qj4|apply qj5|apply qu1|apply qne|(refine qj6 ?_ ?_<;>intro hc<;>(try simp only [hc])<;>(try simp only [decide_eq_true_eq,decide_eq_false_iff_not] at hc)<;>(try (exfalso;omega)))|(refine qk1 ?_ ?_;focus (repeat (first|exact qsub0|(refine qsub1 ?_ ?_;focus (simp only [go_sem,Nat.reduceEqDiff,↓reduceIte,reduceCtorEq])))))))
   all_goals first
    | exact hQ (hsp (by first|(left;simp only [List.length_append,List.length_singleton];omega)|(right;omega)|(left;omega)|(simp;omega))) _ _ rfl rfl rfl
    | (refine s_again ((k+1,⟨⟨n,ng,na,ns⟩,buf++[b],ps,out⟩,false)) ?_ ?_ ?_<;>(first|omega|(dsimp only;omega)|skip)
       all_goals first
        | (unfold good63;exact ⟨by dsimp only;omega,hst (by first|omega|(simp only [List.length_append,List.length_singleton];omega)) (by first|omega|simp),by first|exact fun _=>rfl|(intro h;cases h)⟩)
        | (unfold mu63;dsimp only;omega)
        | (simp [T63,M63,fits,fitsT,fitsM,upd_def,PV.nmb,nmbL,MB.nmb,encS_mk];done))
 · obtain rfl:ps=[]:=hpb rfl
   simp only [T63,M63,mkS,mkT,mkM,cond_true,List.cons_append,List.nil_append]
   repeat' (first|(refine qw10 [1] [0,1,2,3,4] [0,1,2,3,4,5,6] ?_ ?_;focus (decide +kernel))|(first|((first|apply qwd|apply qa1|apply qa2|apply qh1|apply qm1|apply qm2|apply qm3|apply qg1 rfl|apply qcd);(try intro K hk);focus (simp only [lvX63D_59,mkT,go_sem,Nat.reduceEqDiff,Nat.reduceAdd,Nat.reduceLeDiff,↓reduceIte,reduceCtorEq,hn1,exl,hb,hn,encS_eq,ex_St,encTks_len,List.length_nil,List.length_cons,Int.reduceEq,Int.reduceLE,decide_true,decide_false,Bool.and_true,hsl1];first|exact rfl|((repeat refine ai ?_);intros;apply hk;clear hk K)))|apply qw1|refine qwc lvX63D_59 ?_|apply qt1|apply qw5|apply qw2|apply qt4|apply qj1|apply qj2|apply qj3|apply qj4|apply qj5|apply qu1|apply qne|(refine qj6 ?_ ?_<;>intro hc<;>(try simp only [hc])<;>(try simp only [decide_eq_true_eq,decide_eq_false_iff_not] at hc)<;>(try (exfalso;omega)))|(refine qk1 ?_ ?_;focus (repeat (first|exact qsub0|(refine qsub1 ?_ ?_;focus (simp only [go_sem,Nat.reduceEqDiff,↓reduceIte,reduceCtorEq])))))))
   all_goals first
    | exact hQ (hsp (by first|(left;simp only [List.length_append,List.length_singleton];omega)|(right;omega)|(left;omega)|(simp;omega))) _ _ rfl rfl rfl
    | (refine s_again ((k+1,⟨⟨n,ng,na,ns⟩,buf++[b],[],out⟩,true)) ?_ ?_ ?_<;>(first|omega|(dsimp only;omega)|skip)
       all_goals first
        | (unfold good63;exact ⟨by dsimp only;omega,hst (by first|omega|(simp only [List.length_append,List.length_singleton];omega)) (by first|omega|simp),by first|exact fun _=>rfl|(intro h;cases h)⟩)
        | (unfold mu63;dsimp only;omega)
        | (simp [T63,M63,fits,fitsT,fitsM,upd_def,PV.nmb,nmbL,MB.nmb,encS_mk,encPrs_nil];done))
set_option maxHeartbeats 40000000 in
theorem w63_7b {s:Bs} {k:Nat} {m:Int} {tg ta:Bs} {ts:Bool} {buf:Bs} {ps:List (Bs×Bs)} {out:List TokD} {pb:Bool} {b:UInt8} {n:Int} {ng na:Bs} {ns:Bool} {Q:AX→AS→Prop}
 (hsl:s.length≤1048576) (hkl:k<s.length) (hb:s.getD k 0=b) (hn:step ⟨m,tg,ta,ts⟩ b=⟨n,ng,na,ns⟩) (hx:TsAt s k ⟨⟨m,tg,ta,ts⟩,buf,ps,out⟩)
 (hpb:pb=true→ps=[]) (hQ:tokM s=none→ ∀ σ j,σ.tmp 2= .own j→σ.mem j=some (.row 29 4 [])→σ.tmp 3= .bool false→Q .ret σ) (hm:m=10) (hn0:n≠0):Round63 s (k,⟨⟨m,tg,ta,ts⟩,buf,ps,out⟩,pb) Q:=by
 have hoS:okS ⟨m,tg,ta,ts⟩:=okS_of hx.v
 have hoN:=okS_of (stV_step ⟨m,tg,ta,ts⟩ b)
 rw [hn] at hoN
 have hlo:out.length≤60:=hx.lo
 have hlp:ps.length≤60:=hx.lp
 have hbr:buf.length≤k:=hx.buf
 have hles:m=14→buf≠[]:=hx.less
 have hz:=ts_7 (buf:=buf) (ps:=ps) (out:=out) hn ⟨by omega,by omega,by omega,by omega,by omega,by omega⟩ (by omega)
 have hst:=fun h1 h2=>hx.step hkl ((congrArg (tsStep _) hb).trans hz) h1 h2
 have hsp:=fun h1=>hx.stop hkl ((congrArg (tsStep _) hb).trans hz) h1
 clear hx
 try dsimp only at hst hsp
 have hbl:=byte_lt s k
 rw [hb] at hbl
 have hsl1:=sl_byte hkl
 rw [hb] at hsl1
 subst hm
 have hn0:decide (n=0)=false:=decide_eq_false (by omega)
 unfold Round63 body63
 simp only [Try.f59,firstLoop,Option.getD_some,G63,A63]
 cases pb
 · simp only [T63,M63,mkS,mkT,mkM,cond_false,List.append_nil]
   repeat' (first|(refine qw10 [1] [0,1,2,3,4] [0,1,2,3,4,5,6] ?_ ?_;focus (decide +kernel))|(first|((first|apply qwd|apply qa1|apply qa2|apply qh1|apply qm1|apply qm2|apply qm3|apply qg1 rfl|apply qcd);(try intro K hk);focus (simp only [lvX63D_59,mkT,go_sem,Nat.reduceEqDiff,Nat.reduceAdd,Nat.reduceLeDiff,↓reduceIte,reduceCtorEq,hn0,exl,hb,hn,encS_eq,ex_St,encTks_len,encPrs_len,List.length_nil,List.length_cons,Int.reduceEq,Int.reduceLE,decide_true,decide_false,Bool.and_true,Bool.and_false,hsl1];first|exact rfl|((repeat refine ai ?_);intros;apply hk;clear hk K)))|apply qw1|refine qwc lvX63D_59 ?_|apply qt1|apply qw5|apply qw2|apply qt4|apply qj1|apply qj2|apply qj3|apply qj4|apply qj5|apply qu1|apply qne|(refine qj6 ?_ ?_<;>intro hc<;>(try simp only [hc])<;>(try simp only [decide_eq_true_eq,decide_eq_false_iff_not] at hc)<;>(try (exfalso;omega)))|(refine qk1 ?_ ?_;focus (repeat (first|exact qsub0|(refine qsub1 ?_ ?_;focus (simp only [go_sem,Nat.reduceEqDiff,↓reduceIte,reduceCtorEq])))))))
   all_goals first
    | exact hQ (hsp (by first|(left;simp only [List.length_append,List.length_singleton];omega)|(right;omega)|(left;omega)|(simp;omega))) _ _ rfl rfl rfl
    | (refine s_again ((k+1,⟨⟨n,ng,na,ns⟩,buf++[b],ps,out⟩,false)) ?_ ?_ ?_<;>(first|omega|(dsimp only;omega)|skip)
       all_goals first
        | (unfold good63;exact ⟨by dsimp only;omega,hst (by first|omega|(simp only [List.length_append,List.length_singleton];omega)) (by first|omega|simp),by first|exact fun _=>rfl|(intro h;cases h)⟩)
        | (unfold mu63;dsimp only;omega)
        | (simp [T63,M63,fits,fitsT,fitsM,upd_def,PV.nmb,nmbL,MB.nmb,encS_mk];done))
 · obtain rfl:ps=[]:=hpb rfl
   simp only [T63,M63,mkS,mkT,mkM,cond_true,List.cons_append,List.nil_append]
   repeat' (first|(refine qw10 [1] [0,1,2,3,4] [0,1,2,3,4,5,6] ?_ ?_;focus (decide +kernel))|(first|((first|apply qwd|apply qa1|apply qa2|apply qh1|apply qm1|apply qm2|apply qm3|apply qg1 rfl|apply qcd);(try intro K hk);focus (simp only [lvX63D_59,mkT,go_sem,Nat.reduceEqDiff,Nat.reduceAdd,Nat.reduceLeDiff,↓reduceIte,reduceCtorEq,hn0,exl,hb,hn,encS_eq,ex_St,encTks_len,List.length_nil,List.length_cons,Int.reduceEq,Int.reduceLE,decide_true,decide_false,Bool.and_true,Bool.and_false,hsl1];first|exact rfl|((repeat refine ai ?_);intros;apply hk;clear hk K)))|apply qw1|refine qwc lvX63D_59 ?_|apply qt1|apply qw5|apply qw2|apply qt4|apply qj1|apply qj2|apply qj3|apply qj4|apply qj5|apply qu1|apply qne|(refine qj6 ?_ ?_<;>intro hc<;>(try simp only [hc])<;>(try simp only [decide_eq_true_eq,decide_eq_false_iff_not] at hc)<;>(try (exfalso;omega)))|(refine qk1 ?_ ?_;focus (repeat (first|exact qsub0|(refine qsub1 ?_ ?_;focus (simp only [go_sem,Nat.reduceEqDiff,↓reduceIte,reduceCtorEq])))))))
   all_goals first
    | exact hQ (hsp (by first|(left;simp only [List.length_append,List.length_singleton];omega)|(right;omega)|(left;omega)|(simp;omega))) _ _ rfl rfl rfl
    | (refine s_again ((k+1,⟨⟨n,ng,na,ns⟩,buf++[b],[],out⟩,true)) ?_ ?_ ?_<;>(first|omega|(dsimp only;omega)|skip)
       all_goals first
        | (unfold good63;exact ⟨by dsimp only;omega,hst (by first|omega|(simp only [List.length_append,List.length_singleton];omega)) (by first|omega|simp),by first|exact fun _=>rfl|(intro h;cases h)⟩)
        | (unfold mu63;dsimp only;omega)
        | (simp [T63,M63,fits,fitsT,fitsM,upd_def,PV.nmb,nmbL,MB.nmb,encS_mk,encPrs_nil];done))
set_option maxHeartbeats 40000000 in
theorem w63_7c {s:Bs} {k:Nat} {m:Int} {tg ta:Bs} {ts:Bool} {buf:Bs} {ps:List (Bs×Bs)} {out:List TokD} {pb:Bool} {b:UInt8} {n:Int} {ng na:Bs} {ns:Bool} {Q:AX→AS→Prop}
 (hsl:s.length≤1048576) (hkl:k<s.length) (hb:s.getD k 0=b) (hn:step ⟨m,tg,ta,ts⟩ b=⟨n,ng,na,ns⟩) (hx:TsAt s k ⟨⟨m,tg,ta,ts⟩,buf,ps,out⟩)
 (hpb:pb=true→ps=[]) (hQ:tokM s=none→ ∀ σ j,σ.tmp 2= .own j→σ.mem j=some (.row 29 4 [])→σ.tmp 3= .bool false→Q .ret σ) (hm:11≤m∧m≤13):Round63 s (k,⟨⟨m,tg,ta,ts⟩,buf,ps,out⟩,pb) Q:=by
 have hoS:okS ⟨m,tg,ta,ts⟩:=okS_of hx.v
 have hoN:=okS_of (stV_step ⟨m,tg,ta,ts⟩ b)
 rw [hn] at hoN
 have hlo:out.length≤60:=hx.lo
 have hlp:ps.length≤60:=hx.lp
 have hbr:buf.length≤k:=hx.buf
 have hles:m=14→buf≠[]:=hx.less
 have hz:=ts_7 (buf:=buf) (ps:=ps) (out:=out) hn ⟨by omega,by omega,by omega,by omega,by omega,by omega⟩ (by omega)
 have hst:=fun h1 h2=>hx.step hkl ((congrArg (tsStep _) hb).trans hz) h1 h2
 have hsp:=fun h1=>hx.stop hkl ((congrArg (tsStep _) hb).trans hz) h1
 clear hx
 try dsimp only at hst hsp
 have hbl:=byte_lt s k
 rw [hb] at hbl
 have hsl1:=sl_byte hkl
 rw [hb] at hsl1
 have hm0:decide (m=0)=false:=decide_eq_false (by omega)
 have hm10:decide (m=10)=false:=decide_eq_false (by omega)
 have hm9:decide (m=9)=false:=decide_eq_false (by omega)
 have hm14:decide (m=14)=false:=decide_eq_false (by omega)
 have h28:(decide (2≤m) && decide (m≤8))=false:=by rw [← Bool.not_eq_true];simp only [Bool.and_eq_true,decide_eq_true_eq];omega
 have h11:(decide (11≤m) && decide (m≤14))=true:=by rw [decide_eq_true (by omega),decide_eq_true (by omega)];rfl
 unfold Round63 body63
 simp only [Try.f59,firstLoop,Option.getD_some,G63,A63]
 cases pb
 · simp only [T63,M63,mkS,mkT,mkM,cond_false,List.append_nil]
   repeat' (first|(refine qw10 [1] [0,1,2,3,4] [0,1,2,3,4,5,6] ?_ ?_;focus (decide +kernel))|(first|((first|apply qwd|apply qa1|apply qa2|apply qh1|apply qm1|apply qm2|apply qm3|apply qg1 rfl|apply qcd);(try intro K hk);focus (simp only [lvX63D_59,mkT,go_sem,Nat.reduceEqDiff,Nat.reduceAdd,Nat.reduceLeDiff,↓reduceIte,reduceCtorEq,hm0,hm10,hm9,hm14,h28,h11,exl,hb,hn,encS_eq,ex_St,encTks_len,encPrs_len,List.length_nil,List.length_cons,Bool.and_true,hsl1];first|exact rfl|((repeat refine ai ?_);intros;apply hk;clear hk K)))|apply qw1|refine qwc lvX63D_59 ?_|apply qt1|apply qw5|apply qw2|apply qt4|apply qj1|apply qj2|apply qj3|apply qj4|apply qj5|apply qu1|apply qne|(refine qj6 ?_ ?_<;>intro hc<;>(try simp only [hc])<;>(try simp only [decide_eq_true_eq,decide_eq_false_iff_not] at hc)<;>(try (exfalso;omega)))|(refine qk1 ?_ ?_;focus (repeat (first|exact qsub0|(refine qsub1 ?_ ?_;focus (simp only [go_sem,Nat.reduceEqDiff,↓reduceIte,reduceCtorEq])))))))
   all_goals first
    | exact hQ (hsp (by first|(left;simp only [List.length_append,List.length_singleton];omega)|(right;omega)|(left;omega)|(simp;omega))) _ _ rfl rfl rfl
    | (refine s_again ((k+1,⟨⟨n,ng,na,ns⟩,buf++[b],ps,out⟩,false)) ?_ ?_ ?_<;>(first|omega|(dsimp only;omega)|skip)
       all_goals first
        | (unfold good63;exact ⟨by dsimp only;omega,hst (by first|omega|(simp only [List.length_append,List.length_singleton];omega)) (by first|omega|simp),by first|exact fun _=>rfl|(intro h;cases h)⟩)
        | (unfold mu63;dsimp only;omega)
        | (simp [T63,M63,fits,fitsT,fitsM,upd_def,PV.nmb,nmbL,MB.nmb,encS_mk];done))
 · obtain rfl:ps=[]:=hpb rfl
   simp only [T63,M63,mkS,mkT,mkM,cond_true,List.cons_append,List.nil_append]
   repeat' (first|(refine qw10 [1] [0,1,2,3,4] [0,1,2,3,4,5,6] ?_ ?_;focus (decide +kernel))|(first|((first|apply qwd|apply qa1|apply qa2|apply qh1|apply qm1|apply qm2|apply qm3|apply qg1 rfl|apply qcd);(try intro K hk);focus (simp only [lvX63D_59,mkT,go_sem,Nat.reduceEqDiff,Nat.reduceAdd,Nat.reduceLeDiff,↓reduceIte,reduceCtorEq,hm0,hm10,hm9,hm14,h28,h11,exl,hb,hn,encS_eq,ex_St,encTks_len,List.length_nil,List.length_cons,Bool.and_true,hsl1];first|exact rfl|((repeat refine ai ?_);intros;apply hk;clear hk K)))|apply qw1|refine qwc lvX63D_59 ?_|apply qt1|apply qw5|apply qw2|apply qt4|apply qj1|apply qj2|apply qj3|apply qj4|apply qj5|apply qu1|apply qne|(refine qj6 ?_ ?_<;>intro hc<;>(try simp only [hc])<;>(try simp only [decide_eq_true_eq,decide_eq_false_iff_not] at hc)<;>(try (exfalso;omega)))|(refine qk1 ?_ ?_;focus (repeat (first|exact qsub0|(refine qsub1 ?_ ?_;focus (simp only [go_sem,Nat.reduceEqDiff,↓reduceIte,reduceCtorEq])))))))
   all_goals first
    | exact hQ (hsp (by first|(left;simp only [List.length_append,List.length_singleton];omega)|(right;omega)|(left;omega)|(simp;omega))) _ _ rfl rfl rfl
    | (refine s_again ((k+1,⟨⟨n,ng,na,ns⟩,buf++[b],[],out⟩,true)) ?_ ?_ ?_<;>(first|omega|(dsimp only;omega)|skip)
       all_goals first
        | (unfold good63;exact ⟨by dsimp only;omega,hst (by first|omega|(simp only [List.length_append,List.length_singleton];omega)) (by first|omega|simp),by first|exact fun _=>rfl|(intro h;cases h)⟩)
        | (unfold mu63;dsimp only;omega)
        | (simp [T63,M63,fits,fitsT,fitsM,upd_def,PV.nmb,nmbL,MB.nmb,encS_mk,encPrs_nil];done))
set_option maxHeartbeats 40000000 in
theorem w63_7d {s:Bs} {k:Nat} {m:Int} {tg ta:Bs} {ts:Bool} {buf:Bs} {ps:List (Bs×Bs)} {out:List TokD} {pb:Bool} {b:UInt8} {n:Int} {ng na:Bs} {ns:Bool} {Q:AX→AS→Prop}
 (hsl:s.length≤1048576) (hkl:k<s.length) (hb:s.getD k 0=b) (hn:step ⟨m,tg,ta,ts⟩ b=⟨n,ng,na,ns⟩) (hx:TsAt s k ⟨⟨m,tg,ta,ts⟩,buf,ps,out⟩)
 (hpb:pb=true→ps=[]) (hQ:tokM s=none→ ∀ σ j,σ.tmp 2= .own j→σ.mem j=some (.row 29 4 [])→σ.tmp 3= .bool false→Q .ret σ) (hm:m=14) (hn9:n≠9):Round63 s (k,⟨⟨m,tg,ta,ts⟩,buf,ps,out⟩,pb) Q:=by
 have hoS:okS ⟨m,tg,ta,ts⟩:=okS_of hx.v
 have hoN:=okS_of (stV_step ⟨m,tg,ta,ts⟩ b)
 rw [hn] at hoN
 have hlo:out.length≤60:=hx.lo
 have hlp:ps.length≤60:=hx.lp
 have hbr:buf.length≤k:=hx.buf
 have hles:m=14→buf≠[]:=hx.less
 have hz:=ts_7 (buf:=buf) (ps:=ps) (out:=out) hn ⟨by omega,by omega,by omega,by omega,by omega,by omega⟩ (by omega)
 have hst:=fun h1 h2=>hx.step hkl ((congrArg (tsStep _) hb).trans hz) h1 h2
 have hsp:=fun h1=>hx.stop hkl ((congrArg (tsStep _) hb).trans hz) h1
 clear hx
 try dsimp only at hst hsp
 have hbl:=byte_lt s k
 rw [hb] at hbl
 have hsl1:=sl_byte hkl
 rw [hb] at hsl1
 subst hm
 have hn9:decide (n=9)=false:=decide_eq_false hn9
 unfold Round63 body63
 simp only [Try.f59,firstLoop,Option.getD_some,G63,A63]
 cases pb
 · simp only [T63,M63,mkS,mkT,mkM,cond_false,List.append_nil]
   repeat' (first|(refine qw10 [1] [0,1,2,3,4] [0,1,2,3,4,5,6] ?_ ?_;focus (decide +kernel))|(first|((first|apply qwd|apply qa1|apply qa2|apply qh1|apply qm1|apply qm2|apply qm3|apply qg1 rfl|apply qcd);(try intro K hk);focus (simp only [lvX63D_59,mkT,go_sem,Nat.reduceEqDiff,Nat.reduceAdd,Nat.reduceLeDiff,↓reduceIte,reduceCtorEq,hn9,exl,hb,hn,encS_eq,ex_St,encTks_len,encPrs_len,List.length_nil,List.length_cons,Int.reduceEq,Int.reduceLE,decide_true,decide_false,Bool.and_true,Bool.and_false,hsl1];first|exact rfl|((repeat refine ai ?_);intros;apply hk;clear hk K)))|apply qw1|refine qwc lvX63D_59 ?_|apply qt1|apply qw5|apply qw2|apply qt4|apply qj1|apply qj2|apply qj3|apply qj4|apply qj5|apply qu1|apply qne|(refine qj6 ?_ ?_<;>intro hc<;>(try simp only [hc])<;>(try simp only [decide_eq_true_eq,decide_eq_false_iff_not] at hc)<;>(try (exfalso;omega)))|(refine qk1 ?_ ?_;focus (repeat (first|exact qsub0|(refine qsub1 ?_ ?_;focus (simp only [go_sem,Nat.reduceEqDiff,↓reduceIte,reduceCtorEq])))))))
   all_goals first
    | exact hQ (hsp (by first|(left;simp only [List.length_append,List.length_singleton];omega)|(right;omega)|(left;omega)|(simp;omega))) _ _ rfl rfl rfl
    | (refine s_again ((k+1,⟨⟨n,ng,na,ns⟩,buf++[b],ps,out⟩,false)) ?_ ?_ ?_<;>(first|omega|(dsimp only;omega)|skip)
       all_goals first
        | (unfold good63;exact ⟨by dsimp only;omega,hst (by first|omega|(simp only [List.length_append,List.length_singleton];omega)) (by first|omega|simp),by first|exact fun _=>rfl|(intro h;cases h)⟩)
        | (unfold mu63;dsimp only;omega)
        | (simp [T63,M63,fits,fitsT,fitsM,upd_def,PV.nmb,nmbL,MB.nmb,encS_mk];done))
 · obtain rfl:ps=[]:=hpb rfl
   simp only [T63,M63,mkS,mkT,mkM,cond_true,List.cons_append,List.nil_append]
   repeat' (first|(refine qw10 [1] [0,1,2,3,4] [0,1,2,3,4,5,6] ?_ ?_;focus (decide +kernel))|(first|((first|apply qwd|apply qa1|apply qa2|apply qh1|apply qm1|apply qm2|apply qm3|apply qg1 rfl|apply qcd);(try intro K hk);focus (simp only [lvX63D_59,mkT,go_sem,Nat.reduceEqDiff,Nat.reduceAdd,Nat.reduceLeDiff,↓reduceIte,reduceCtorEq,hn9,exl,hb,hn,encS_eq,ex_St,encTks_len,List.length_nil,List.length_cons,Int.reduceEq,Int.reduceLE,decide_true,decide_false,Bool.and_true,Bool.and_false,hsl1];first|exact rfl|((repeat refine ai ?_);intros;apply hk;clear hk K)))|apply qw1|refine qwc lvX63D_59 ?_|apply qt1|apply qw5|apply qw2|apply qt4|apply qj1|apply qj2|apply qj3|apply qj4|apply qj5|apply qu1|apply qne|(refine qj6 ?_ ?_<;>intro hc<;>(try simp only [hc])<;>(try simp only [decide_eq_true_eq,decide_eq_false_iff_not] at hc)<;>(try (exfalso;omega)))|(refine qk1 ?_ ?_;focus (repeat (first|exact qsub0|(refine qsub1 ?_ ?_;focus (simp only [go_sem,Nat.reduceEqDiff,↓reduceIte,reduceCtorEq])))))))
   all_goals first
    | exact hQ (hsp (by first|(left;simp only [List.length_append,List.length_singleton];omega)|(right;omega)|(left;omega)|(simp;omega))) _ _ rfl rfl rfl
    | (refine s_again ((k+1,⟨⟨n,ng,na,ns⟩,buf++[b],[],out⟩,true)) ?_ ?_ ?_<;>(first|omega|(dsimp only;omega)|skip)
       all_goals first
        | (unfold good63;exact ⟨by dsimp only;omega,hst (by first|omega|(simp only [List.length_append,List.length_singleton];omega)) (by first|omega|simp),by first|exact fun _=>rfl|(intro h;cases h)⟩)
        | (unfold mu63;dsimp only;omega)
        | (simp [T63,M63,fits,fitsT,fitsM,upd_def,PV.nmb,nmbL,MB.nmb,encS_mk,encPrs_nil];done))
end Go.Proofs.Ytnbjogilidfkdaa

/- The reference's reading of tokens: other bytes. -/
namespace Go.Proofs.Ytnbjogilidfkdaa
attribute [local irreducible] awp arun acalm FinP Fin AX.then AX.inBlock Again aG gsel amix amixN amixC aop aopc aopd cutK
attribute [local go_sem] aBSliceD aSlice aSliceC boundOf aMk aCall aCallC aLenL aLen aPick_t aPick_f aNil aAlloc aBox aBuild bldPV aBSlice bsPV aApp newsOf destOf drp aConvX aConv aConvInt aLoad cellsAt aStore cellsPV setAt aFld aField aIdx aIndex aUn aBin' aBin aMax aExtract pvOf PV.isCell nmbL PV.nmb List.map_cons List.map_nil List.all_cons List.all_nil Bool.and_true Bool.true_and if_true if_false List.getD_cons_zero List.getD_cons_succ List.getD_nil Option.isSome_some true_and and_true and_self eq_self true_or or_true List.drop_zero List.drop_succ_cons List.drop_nil List.take_zero List.take_succ_cons List.take_nil List.length_cons List.length_nil List.length_map Option.getD_some Option.getD_none List.nil_append List.cons_append List.append_nil Option.some.injEq exists_eq_left' List.getElem?_cons_zero List.getElem?_cons_succ Int.toNat_natCast Int.natCast_inj toNat_succ Nat.zero_add res res1 resC owns owns1 ownsC List.flatMap_cons List.flatMap_nil List.flatten_cons List.flatten_nil List.mem_cons List.not_mem_nil or_false false_or forall_eq forall_eq_or_imp isFro frz frz1 pureC tabA isBld List.cons.injEq PV.seq.injEq PV.int.injEq PV.str.injEq PV.bool.injEq PV.agg.injEq inR tab Γof aRes packR Option.map_some Option.map_none rel Prod.exists exists_and_left exists_eq_left and_assoc beq_self_eq_true Bool.not_true Bool.not_false decide_true decide_false List.set_cons_zero List.set_cons_succ rst_nil rst_cons
attribute [local go_sem ↓] evT upd_def aop aopc aopd
set_option maxRecDepth 100000
set_option linter.unusedVariables false
set_option linter.unusedSimpArgs false
open Go.RowKit
def lvX63E_59:Nat→List Nat
 | 0=>[0]
 | 1=>[0,4]
 | 2=>[0,4,5]
 | 3=>[0,4,5,6]
 | 4=>[0,4,5,6,7]
 | 5=>[0,4,5,6,7,8]
 | 6=>[0,4,5,6,7,8,17]
 | 7=>[0,4,5,6,7,8]
 | 8=>[0,4,5,6,7,8,9]
 | 9=>[0,4,5,6,7,8,9,10]
 | 10=>[0,4,5,6,7,8,9,10,30]
 | 11=>[0,4,5,8,9]
 | 12=>[0,4,5,6,8,9]
 | 13=>[0,4,5,6,7,8,9]
 | 14=>[0,4,5,6,7,8,9,10,45]
 | 15=>[0,4,5,7,8,9]
 | 16=>[0,4,5,6,7,8,9]
 | 17=>[0,4,5,6,7,8,9,10,59]
 | 18=>[0,4,5,7,8,9]
 | 19=>[0,4,5,6,7,8,9]
 | 20=>[0,4,5,6,7,8,9,10,74]
 | 21=>[0,4,5,7,8,9]
 | 22=>[0,4,5,7,8,9]
 | 23=>[0,4,5,6,7,8,9]
 | 24=>[0,4,5,6,7,8,9,10,99]
 | 25=>[0,4,5,7,8,9]
 | 26=>[0,4,5,6,7,8,9]
 | 27=>[0,4,5,6,7,8,9,10,112]
 | 28=>[0,4,5,7,8,9]
 | 29=>[0,4,5,6,7,8,9]
 | 30=>[0,4,5,6,7,8,9,10,129]
 | 31=>[0,4,5,6,7,8,9]
 | 32=>[0,4,5,6,7,8]
 | 33=>[0,4,5,6,7,8,158]
 | 34=>[2,3]
 | 35=>[0,4,5]
 | 36=>[4,177]
 | 37=>[2,3]
 | 38=>[2,3]
 | _=>[]
--LV=X63E
set_option maxHeartbeats 40000000 in
theorem w63_7e {s:Bs} {k:Nat} {m:Int} {tg ta:Bs} {ts:Bool} {buf:Bs} {ps:List (Bs×Bs)} {out:List TokD} {pb:Bool} {b:UInt8} {n:Int} {ng na:Bs} {ns:Bool} {Q:AX→AS→Prop}
 (hsl:s.length≤1048576) (hkl:k<s.length) (hb:s.getD k 0=b) (hn:step ⟨m,tg,ta,ts⟩ b=⟨n,ng,na,ns⟩) (hx:TsAt s k ⟨⟨m,tg,ta,ts⟩,buf,ps,out⟩)
 (hpb:pb=true→ps=[]) (hQ:tokM s=none→ ∀ σ j,σ.tmp 2= .own j→σ.mem j=some (.row 29 4 [])→σ.tmp 3= .bool false→Q .ret σ) (hm:2≤m∧m≤8) (hn0:6≤n∧n≤8) (hns:ns=true):Round63 s (k,⟨⟨m,tg,ta,ts⟩,buf,ps,out⟩,pb) Q:=by
 have hoS:okS ⟨m,tg,ta,ts⟩:=okS_of hx.v
 have hoN:=okS_of (stV_step ⟨m,tg,ta,ts⟩ b)
 rw [hn] at hoN
 have hlo:out.length≤60:=hx.lo
 have hlp:ps.length≤60:=hx.lp
 have hbr:buf.length≤k:=hx.buf
 have hles:m=14→buf≠[]:=hx.less
 have hz:=ts_7 (buf:=buf) (ps:=ps) (out:=out) hn ⟨by omega,by omega,by omega,by omega,by omega,by omega⟩ (by first|omega|simp [hns])
 have hst:=fun h1 h2=>hx.step hkl ((congrArg (tsStep _) hb).trans hz) h1 h2
 have hsp:=fun h1=>hx.stop hkl ((congrArg (tsStep _) hb).trans hz) h1
 clear hx
 try dsimp only at hst hsp
 have hbl:=byte_lt s k
 rw [hb] at hbl
 have hsl1:=sl_byte hkl
 rw [hb] at hsl1
 subst hns
 have hm0:decide (m=0)=false:=decide_eq_false (by omega)
 have hm10:decide (m=10)=false:=decide_eq_false (by omega)
 have hm9:decide (m=9)=false:=decide_eq_false (by omega)
 have hm14:decide (m=14)=false:=decide_eq_false (by omega)
 have h28:(decide (2≤m) && decide (m≤8))=true:=by rw [decide_eq_true hm.1,decide_eq_true hm.2];rfl
 have h11:(decide (11≤m) && decide (m≤14))=false:=by rw [← Bool.not_eq_true];simp only [Bool.and_eq_true,decide_eq_true_eq];omega
 have hn0:decide (n=0)=false:=decide_eq_false (by omega)
 have hn11:decide (n=11)=false:=decide_eq_false (by omega)
 have hn3:decide (n=3)=false:=decide_eq_false (by omega)
 unfold Round63 body63
 simp only [Try.f59,firstLoop,Option.getD_some,G63,A63]
 cases pb
 · simp only [T63,M63,mkS,mkT,mkM,cond_false,List.append_nil]
   repeat' (first|(refine qw10 [1] [0,1,2,3,4] [0,1,2,3,4,5,6] ?_ ?_;focus (decide +kernel))|(first|((first|apply qwd|apply qa1|apply qa2|apply qh1|apply qm1|apply qm2|apply qm3|apply qg1 rfl|apply qcd);(try intro K hk);focus (simp only [lvX63E_59,mkT,go_sem,Nat.reduceEqDiff,Nat.reduceAdd,Nat.reduceLeDiff,↓reduceIte,reduceCtorEq,hm0,hm10,hm9,hm14,h28,h11,hn0,hn11,hn3,exl,hb,hn,encS_eq,ex_St,encTks_len,encPrs_len,List.length_nil,List.length_cons,Bool.and_true,hsl1];first|exact rfl|((repeat refine ai ?_);intros;apply hk;clear hk K)))|apply qw1|refine qwc lvX63E_59 ?_|apply qt1|apply qw5|apply qw2|apply qt4|apply qj1|apply qj2|apply qj4|apply qu1|apply qne|(refine qj6 ?_ ?_<;>intro hc<;>(try simp only [hc])<;>(try simp only [decide_eq_true_eq,decide_eq_false_iff_not] at hc)<;>(try (exfalso;omega)))|(refine qk1 ?_ ?_;focus (repeat (first|exact qsub0|(refine qsub1 ?_ ?_;focus (simp only [go_sem,Nat.reduceEqDiff,↓reduceIte,reduceCtorEq])))))))
   all_goals first
    | exact hQ (hsp (by first|(left;simp only [List.length_append,List.length_singleton];omega)|(right;omega)|(left;omega)|(simp;omega))) _ _ rfl rfl rfl
    | (refine s_again ((k+1,⟨⟨n,ng,na,true⟩,buf++[b],ps,out⟩,false)) ?_ ?_ ?_<;>(first|omega|(dsimp only;omega)|skip)
       all_goals first
        | (unfold good63;exact ⟨by dsimp only;omega,hst (by first|omega|(simp only [List.length_append,List.length_singleton];omega)) (by first|omega|simp),by first|exact fun _=>rfl|(intro h;cases h)⟩)
        | (unfold mu63;dsimp only;omega)
        | (simp [T63,M63,fits,fitsT,fitsM,upd_def,PV.nmb,nmbL,MB.nmb,encS_mk];done))
 · obtain rfl:ps=[]:=hpb rfl
   simp only [T63,M63,mkS,mkT,mkM,cond_true,List.cons_append,List.nil_append]
   repeat' (first|(refine qw10 [1] [0,1,2,3,4] [0,1,2,3,4,5,6] ?_ ?_;focus (decide +kernel))|(first|((first|apply qwd|apply qa1|apply qa2|apply qh1|apply qm1|apply qm2|apply qm3|apply qg1 rfl|apply qcd);(try intro K hk);focus (simp only [lvX63E_59,mkT,go_sem,Nat.reduceEqDiff,Nat.reduceAdd,Nat.reduceLeDiff,↓reduceIte,reduceCtorEq,hm0,hm10,hm9,hm14,h28,h11,hn0,hn11,hn3,exl,hb,hn,encS_eq,ex_St,encTks_len,List.length_nil,List.length_cons,Bool.and_true,hsl1];first|exact rfl|((repeat refine ai ?_);intros;apply hk;clear hk K)))|apply qw1|refine qwc lvX63E_59 ?_|apply qt1|apply qw5|apply qw2|apply qt4|apply qj1|apply qj2|apply qj4|apply qu1|apply qne|(refine qj6 ?_ ?_<;>intro hc<;>(try simp only [hc])<;>(try simp only [decide_eq_true_eq,decide_eq_false_iff_not] at hc)<;>(try (exfalso;omega)))|(refine qk1 ?_ ?_;focus (repeat (first|exact qsub0|(refine qsub1 ?_ ?_;focus (simp only [go_sem,Nat.reduceEqDiff,↓reduceIte,reduceCtorEq])))))))
   all_goals first
    | exact hQ (hsp (by first|(left;simp only [List.length_append,List.length_singleton];omega)|(right;omega)|(left;omega)|(simp;omega))) _ _ rfl rfl rfl
    | (refine s_again ((k+1,⟨⟨n,ng,na,true⟩,buf++[b],[],out⟩,true)) ?_ ?_ ?_<;>(first|omega|(dsimp only;omega)|skip)
       all_goals first
        | (unfold good63;exact ⟨by dsimp only;omega,hst (by first|omega|(simp only [List.length_append,List.length_singleton];omega)) (by first|omega|simp),by first|exact fun _=>rfl|(intro h;cases h)⟩)
        | (unfold mu63;dsimp only;omega)
        | (simp [T63,M63,fits,fitsT,fitsM,upd_def,PV.nmb,nmbL,MB.nmb,encS_mk,encPrs_nil];done))
set_option maxHeartbeats 40000000 in
theorem w63_8a {s:Bs} {k:Nat} {m:Int} {tg ta:Bs} {ts:Bool} {buf:Bs} {ps:List (Bs×Bs)} {out:List TokD} {pb:Bool} {b:UInt8} {n:Int} {ng na:Bs} {ns:Bool} {Q:AX→AS→Prop}
 (hsl:s.length≤1048576) (hkl:k<s.length) (hb:s.getD k 0=b) (hn:step ⟨m,tg,ta,ts⟩ b=⟨n,ng,na,ns⟩) (hx:TsAt s k ⟨⟨m,tg,ta,ts⟩,buf,ps,out⟩)
 (hpb:pb=true→ps=[]) (hQ:tokM s=none→ ∀ σ j,σ.tmp 2= .own j→σ.mem j=some (.row 29 4 [])→σ.tmp 3= .bool false→Q .ret σ) (hm:m=1) (hns:ns=false):Round63 s (k,⟨⟨m,tg,ta,ts⟩,buf,ps,out⟩,pb) Q:=by
 have hoS:okS ⟨m,tg,ta,ts⟩:=okS_of hx.v
 have hoN:=okS_of (stV_step ⟨m,tg,ta,ts⟩ b)
 rw [hn] at hoN
 have hlo:out.length≤60:=hx.lo
 have hlp:ps.length≤60:=hx.lp
 have hbr:buf.length≤k:=hx.buf
 have hles:m=14→buf≠[]:=hx.less
 have hz:=ts_8 (buf:=buf) (ps:=ps) (out:=out) hn ⟨by omega,by omega,by omega,by omega,by omega,by omega⟩ (by simp only [hns];simp;omega)
 have hst:=fun h1 h2=>hx.step hkl ((congrArg (tsStep _) hb).trans hz) h1 h2
 have hsp:=fun h1=>hx.stop hkl ((congrArg (tsStep _) hb).trans hz) h1
 clear hx
 try dsimp only at hst hsp
 have hbl:=byte_lt s k
 rw [hb] at hbl
 have hsl1:=sl_byte hkl
 rw [hb] at hsl1
 subst hm hns
 unfold Round63 body63
 simp only [Try.f59,firstLoop,Option.getD_some,G63,A63]
 cases pb
 · simp only [T63,M63,mkS,mkT,mkM,cond_false,List.append_nil]
   repeat' (first|(refine qw10 [1] [0,1,2,3,4] [0,1,2,3,4,5,6] ?_ ?_;focus (decide +kernel))|(first|((first|apply qwd|apply qa1|apply qa2|apply qh1|apply qm1|apply qm2|apply qm3|apply qg1 rfl|apply qcd);(try intro K hk);focus (simp only [lvX63E_59,mkT,go_sem,Nat.reduceEqDiff,Nat.reduceAdd,Nat.reduceLeDiff,↓reduceIte,reduceCtorEq,exl,hb,hn,encS_eq,ex_St,encTks_len,encPrs_len,List.length_nil,List.length_cons,Int.reduceEq,Int.reduceLE,decide_true,decide_false,Bool.and_true,hsl1];first|exact rfl|((repeat refine ai ?_);intros;apply hk;clear hk K)))|apply qw1|refine qwc lvX63E_59 ?_|apply qt1|apply qw5|apply qw2|apply qt4|apply qj1|apply qj2|apply qj4|apply qj5|apply qu1|apply qne|(refine qj6 ?_ ?_<;>intro hc<;>(try simp only [hc])<;>(try simp only [decide_eq_true_eq,decide_eq_false_iff_not] at hc)<;>(try (exfalso;omega)))|(refine qk1 ?_ ?_;focus (repeat (first|exact qsub0|(refine qsub1 ?_ ?_;focus (simp only [go_sem,Nat.reduceEqDiff,↓reduceIte,reduceCtorEq])))))))
   all_goals first
    | exact hQ (hsp (by first|(left;simp only [List.length_append,List.length_singleton];omega)|(right;omega)|(left;omega)|(simp;omega))) _ _ rfl rfl rfl
    | (refine s_again ((k+1,⟨⟨n,ng,na,false⟩,buf,ps,out⟩,false)) ?_ ?_ ?_<;>(first|omega|(dsimp only;omega)|skip)
       all_goals first
        | (unfold good63;exact ⟨by dsimp only;omega,hst (by first|omega|(simp only [List.length_append,List.length_singleton];omega)) (by first|omega|simp),by first|exact fun _=>rfl|(intro h;cases h)⟩)
        | (unfold mu63;dsimp only;omega)
        | (simp [T63,M63,fits,fitsT,fitsM,upd_def,PV.nmb,nmbL,MB.nmb,encS_mk];done))
 · obtain rfl:ps=[]:=hpb rfl
   simp only [T63,M63,mkS,mkT,mkM,cond_true,List.cons_append,List.nil_append]
   repeat' (first|(refine qw10 [1] [0,1,2,3,4] [0,1,2,3,4,5,6] ?_ ?_;focus (decide +kernel))|(first|((first|apply qwd|apply qa1|apply qa2|apply qh1|apply qm1|apply qm2|apply qm3|apply qg1 rfl|apply qcd);(try intro K hk);focus (simp only [lvX63E_59,mkT,go_sem,Nat.reduceEqDiff,Nat.reduceAdd,Nat.reduceLeDiff,↓reduceIte,reduceCtorEq,exl,hb,hn,encS_eq,ex_St,encTks_len,List.length_nil,List.length_cons,Int.reduceEq,Int.reduceLE,decide_true,decide_false,Bool.and_true,hsl1];first|exact rfl|((repeat refine ai ?_);intros;apply hk;clear hk K)))|apply qw1|refine qwc lvX63E_59 ?_|apply qt1|apply qw5|apply qw2|apply qt4|apply qj1|apply qj2|apply qj4|apply qj5|apply qu1|apply qne|(refine qj6 ?_ ?_<;>intro hc<;>(try simp only [hc])<;>(try simp only [decide_eq_true_eq,decide_eq_false_iff_not] at hc)<;>(try (exfalso;omega)))|(refine qk1 ?_ ?_;focus (repeat (first|exact qsub0|(refine qsub1 ?_ ?_;focus (simp only [go_sem,Nat.reduceEqDiff,↓reduceIte,reduceCtorEq])))))))
   all_goals first
    | exact hQ (hsp (by first|(left;simp only [List.length_append,List.length_singleton];omega)|(right;omega)|(left;omega)|(simp;omega))) _ _ rfl rfl rfl
    | (refine s_again ((k+1,⟨⟨n,ng,na,false⟩,buf,[],out⟩,true)) ?_ ?_ ?_<;>(first|omega|(dsimp only;omega)|skip)
       all_goals first
        | (unfold good63;exact ⟨by dsimp only;omega,hst (by first|omega|(simp only [List.length_append,List.length_singleton];omega)) (by first|omega|simp),by first|exact fun _=>rfl|(intro h;cases h)⟩)
        | (unfold mu63;dsimp only;omega)
        | (simp [T63,M63,fits,fitsT,fitsM,upd_def,PV.nmb,nmbL,MB.nmb,encS_mk,encPrs_nil];done))
set_option maxHeartbeats 40000000 in
theorem w63_8b {s:Bs} {k:Nat} {m:Int} {tg ta:Bs} {ts:Bool} {buf:Bs} {ps:List (Bs×Bs)} {out:List TokD} {pb:Bool} {b:UInt8} {n:Int} {ng na:Bs} {ns:Bool} {Q:AX→AS→Prop}
 (hsl:s.length≤1048576) (hkl:k<s.length) (hb:s.getD k 0=b) (hn:step ⟨m,tg,ta,ts⟩ b=⟨n,ng,na,ns⟩) (hx:TsAt s k ⟨⟨m,tg,ta,ts⟩,buf,ps,out⟩)
 (hpb:pb=true→ps=[]) (hQ:tokM s=none→ ∀ σ j,σ.tmp 2= .own j→σ.mem j=some (.row 29 4 [])→σ.tmp 3= .bool false→Q .ret σ) (hm:m=9) (hn0:n≠0) (hns:ns=false):Round63 s (k,⟨⟨m,tg,ta,ts⟩,buf,ps,out⟩,pb) Q:=by
 have hoS:okS ⟨m,tg,ta,ts⟩:=okS_of hx.v
 have hoN:=okS_of (stV_step ⟨m,tg,ta,ts⟩ b)
 rw [hn] at hoN
 have hlo:out.length≤60:=hx.lo
 have hlp:ps.length≤60:=hx.lp
 have hbr:buf.length≤k:=hx.buf
 have hles:m=14→buf≠[]:=hx.less
 have hz:=ts_8 (buf:=buf) (ps:=ps) (out:=out) hn ⟨by omega,by omega,by omega,by omega,by omega,by omega⟩ (by simp only [hns];simp;omega)
 have hst:=fun h1 h2=>hx.step hkl ((congrArg (tsStep _) hb).trans hz) h1 h2
 have hsp:=fun h1=>hx.stop hkl ((congrArg (tsStep _) hb).trans hz) h1
 clear hx
 try dsimp only at hst hsp
 have hbl:=byte_lt s k
 rw [hb] at hbl
 have hsl1:=sl_byte hkl
 rw [hb] at hsl1
 subst hm hns
 have hn0:decide (n=0)=false:=decide_eq_false (by omega)
 unfold Round63 body63
 simp only [Try.f59,firstLoop,Option.getD_some,G63,A63]
 cases pb
 · simp only [T63,M63,mkS,mkT,mkM,cond_false,List.append_nil]
   repeat' (first|(refine qw10 [1] [0,1,2,3,4] [0,1,2,3,4,5,6] ?_ ?_;focus (decide +kernel))|(first|((first|apply qwd|apply qa1|apply qa2|apply qh1|apply qm1|apply qm2|apply qm3|apply qg1 rfl|apply qcd);(try intro K hk);focus (simp only [lvX63E_59,mkT,go_sem,Nat.reduceEqDiff,Nat.reduceAdd,Nat.reduceLeDiff,↓reduceIte,reduceCtorEq,hn0,exl,hb,hn,encS_eq,ex_St,encTks_len,encPrs_len,List.length_nil,List.length_cons,Int.reduceEq,Int.reduceLE,decide_true,decide_false,Bool.and_true,Bool.and_false,hsl1];first|exact rfl|((repeat refine ai ?_);intros;apply hk;clear hk K)))|apply qw1|refine qwc lvX63E_59 ?_|apply qt1|apply qw5|apply qw2|apply qt4|apply qj1|apply qj2|apply qj4|apply qj5|apply qu1|apply qne|(refine qj6 ?_ ?_<;>intro hc<;>(try simp only [hc])<;>(try simp only [decide_eq_true_eq,decide_eq_false_iff_not] at hc)<;>(try (exfalso;omega)))|(refine qk1 ?_ ?_;focus (repeat (first|exact qsub0|(refine qsub1 ?_ ?_;focus (simp only [go_sem,Nat.reduceEqDiff,↓reduceIte,reduceCtorEq])))))))
   all_goals first
    | exact hQ (hsp (by first|(left;simp only [List.length_append,List.length_singleton];omega)|(right;omega)|(left;omega)|(simp;omega))) _ _ rfl rfl rfl
    | (refine s_again ((k+1,⟨⟨n,ng,na,false⟩,buf,ps,out⟩,false)) ?_ ?_ ?_<;>(first|omega|(dsimp only;omega)|skip)
       all_goals first
        | (unfold good63;exact ⟨by dsimp only;omega,hst (by first|omega|(simp only [List.length_append,List.length_singleton];omega)) (by first|omega|simp),by first|exact fun _=>rfl|(intro h;cases h)⟩)
        | (unfold mu63;dsimp only;omega)
        | (simp [T63,M63,fits,fitsT,fitsM,upd_def,PV.nmb,nmbL,MB.nmb,encS_mk];done))
 · obtain rfl:ps=[]:=hpb rfl
   simp only [T63,M63,mkS,mkT,mkM,cond_true,List.cons_append,List.nil_append]
   repeat' (first|(refine qw10 [1] [0,1,2,3,4] [0,1,2,3,4,5,6] ?_ ?_;focus (decide +kernel))|(first|((first|apply qwd|apply qa1|apply qa2|apply qh1|apply qm1|apply qm2|apply qm3|apply qg1 rfl|apply qcd);(try intro K hk);focus (simp only [lvX63E_59,mkT,go_sem,Nat.reduceEqDiff,Nat.reduceAdd,Nat.reduceLeDiff,↓reduceIte,reduceCtorEq,hn0,exl,hb,hn,encS_eq,ex_St,encTks_len,List.length_nil,List.length_cons,Int.reduceEq,Int.reduceLE,decide_true,decide_false,Bool.and_true,Bool.and_false,hsl1];first|exact rfl|((repeat refine ai ?_);intros;apply hk;clear hk K)))|apply qw1|refine qwc lvX63E_59 ?_|apply qt1|apply qw5|apply qw2|apply qt4|apply qj1|apply qj2|apply qj4|apply qj5|apply qu1|apply qne|(refine qj6 ?_ ?_<;>intro hc<;>(try simp only [hc])<;>(try simp only [decide_eq_true_eq,decide_eq_false_iff_not] at hc)<;>(try (exfalso;omega)))|(refine qk1 ?_ ?_;focus (repeat (first|exact qsub0|(refine qsub1 ?_ ?_;focus (simp only [go_sem,Nat.reduceEqDiff,↓reduceIte,reduceCtorEq])))))))
   all_goals first
    | exact hQ (hsp (by first|(left;simp only [List.length_append,List.length_singleton];omega)|(right;omega)|(left;omega)|(simp;omega))) _ _ rfl rfl rfl
    | (refine s_again ((k+1,⟨⟨n,ng,na,false⟩,buf,[],out⟩,true)) ?_ ?_ ?_<;>(first|omega|(dsimp only;omega)|skip)
       all_goals first
        | (unfold good63;exact ⟨by dsimp only;omega,hst (by first|omega|(simp only [List.length_append,List.length_singleton];omega)) (by first|omega|simp),by first|exact fun _=>rfl|(intro h;cases h)⟩)
        | (unfold mu63;dsimp only;omega)
        | (simp [T63,M63,fits,fitsT,fitsM,upd_def,PV.nmb,nmbL,MB.nmb,encS_mk,encPrs_nil];done))
set_option maxHeartbeats 40000000 in
theorem w63_8c {s:Bs} {k:Nat} {m:Int} {tg ta:Bs} {ts:Bool} {buf:Bs} {ps:List (Bs×Bs)} {out:List TokD} {pb:Bool} {b:UInt8} {n:Int} {ng na:Bs} {ns:Bool} {Q:AX→AS→Prop}
 (hsl:s.length≤1048576) (hkl:k<s.length) (hb:s.getD k 0=b) (hn:step ⟨m,tg,ta,ts⟩ b=⟨n,ng,na,ns⟩) (hx:TsAt s k ⟨⟨m,tg,ta,ts⟩,buf,ps,out⟩)
 (hpb:pb=true→ps=[]) (hQ:tokM s=none→ ∀ σ j,σ.tmp 2= .own j→σ.mem j=some (.row 29 4 [])→σ.tmp 3= .bool false→Q .ret σ) (hm:2≤m∧m≤8) (hn0:n≠0∧n≠11∧n≠3) (hns:ns=false):Round63 s (k,⟨⟨m,tg,ta,ts⟩,buf,ps,out⟩,pb) Q:=by
 have hoS:okS ⟨m,tg,ta,ts⟩:=okS_of hx.v
 have hoN:=okS_of (stV_step ⟨m,tg,ta,ts⟩ b)
 rw [hn] at hoN
 have hlo:out.length≤60:=hx.lo
 have hlp:ps.length≤60:=hx.lp
 have hbr:buf.length≤k:=hx.buf
 have hles:m=14→buf≠[]:=hx.less
 have hz:=ts_8 (buf:=buf) (ps:=ps) (out:=out) hn ⟨by omega,by omega,by omega,by omega,by omega,by omega⟩ (by simp only [hns];simp;omega)
 have hst:=fun h1 h2=>hx.step hkl ((congrArg (tsStep _) hb).trans hz) h1 h2
 have hsp:=fun h1=>hx.stop hkl ((congrArg (tsStep _) hb).trans hz) h1
 clear hx
 try dsimp only at hst hsp
 have hbl:=byte_lt s k
 rw [hb] at hbl
 have hsl1:=sl_byte hkl
 rw [hb] at hsl1
 subst hns
 have hm0:decide (m=0)=false:=decide_eq_false (by omega)
 have hm10:decide (m=10)=false:=decide_eq_false (by omega)
 have hm9:decide (m=9)=false:=decide_eq_false (by omega)
 have hm14:decide (m=14)=false:=decide_eq_false (by omega)
 have h28:(decide (2≤m) && decide (m≤8))=true:=by rw [decide_eq_true hm.1,decide_eq_true hm.2];rfl
 have h11:(decide (11≤m) && decide (m≤14))=false:=by rw [← Bool.not_eq_true];simp only [Bool.and_eq_true,decide_eq_true_eq];omega
 have hn11:decide (n=11)=false:=decide_eq_false (by omega)
 have hn3:decide (n=3)=false:=decide_eq_false (by omega)
 have hn0:decide (n=0)=false:=decide_eq_false (by omega)
 unfold Round63 body63
 simp only [Try.f59,firstLoop,Option.getD_some,G63,A63]
 cases pb
 · simp only [T63,M63,mkS,mkT,mkM,cond_false,List.append_nil]
   repeat' (first|(refine qw10 [1] [0,1,2,3,4] [0,1,2,3,4,5,6] ?_ ?_;focus (decide +kernel))|(first|((first|apply qwd|apply qa1|apply qa2|apply qh1|apply qm1|apply qm2|apply qm3|apply qg1 rfl|apply qcd);(try intro K hk);focus (simp only [lvX63E_59,mkT,go_sem,Nat.reduceEqDiff,Nat.reduceAdd,Nat.reduceLeDiff,↓reduceIte,reduceCtorEq,hm0,hm10,hm9,hm14,h28,h11,hn0,hn11,hn3,exl,hb,hn,encS_eq,ex_St,encTks_len,encPrs_len,List.length_nil,List.length_cons,Bool.and_true,hsl1];first|exact rfl|((repeat refine ai ?_);intros;apply hk;clear hk K)))|apply qw1|refine qwc lvX63E_59 ?_|apply qt1|apply qw5|apply qw2|apply qt4|apply qj1|apply qj2|apply qj4|apply qu1|apply qne|(refine qj6 ?_ ?_<;>intro hc<;>(try simp only [hc])<;>(try simp only [decide_eq_true_eq,decide_eq_false_iff_not] at hc)<;>(try (exfalso;omega)))|(refine qk1 ?_ ?_;focus (repeat (first|exact qsub0|(refine qsub1 ?_ ?_;focus (simp only [go_sem,Nat.reduceEqDiff,↓reduceIte,reduceCtorEq])))))))
   all_goals first
    | exact hQ (hsp (by first|(left;simp only [List.length_append,List.length_singleton];omega)|(right;omega)|(left;omega)|(simp;omega))) _ _ rfl rfl rfl
    | (refine s_again ((k+1,⟨⟨n,ng,na,false⟩,buf,ps,out⟩,false)) ?_ ?_ ?_<;>(first|omega|(dsimp only;omega)|skip)
       all_goals first
        | (unfold good63;exact ⟨by dsimp only;omega,hst (by first|omega|(simp only [List.length_append,List.length_singleton];omega)) (by first|omega|simp),by first|exact fun _=>rfl|(intro h;cases h)⟩)
        | (unfold mu63;dsimp only;omega)
        | (simp [T63,M63,fits,fitsT,fitsM,upd_def,PV.nmb,nmbL,MB.nmb,encS_mk];done))
 · obtain rfl:ps=[]:=hpb rfl
   simp only [T63,M63,mkS,mkT,mkM,cond_true,List.cons_append,List.nil_append]
   repeat' (first|(refine qw10 [1] [0,1,2,3,4] [0,1,2,3,4,5,6] ?_ ?_;focus (decide +kernel))|(first|((first|apply qwd|apply qa1|apply qa2|apply qh1|apply qm1|apply qm2|apply qm3|apply qg1 rfl|apply qcd);(try intro K hk);focus (simp only [lvX63E_59,mkT,go_sem,Nat.reduceEqDiff,Nat.reduceAdd,Nat.reduceLeDiff,↓reduceIte,reduceCtorEq,hm0,hm10,hm9,hm14,h28,h11,hn0,hn11,hn3,exl,hb,hn,encS_eq,ex_St,encTks_len,List.length_nil,List.length_cons,Bool.and_true,hsl1];first|exact rfl|((repeat refine ai ?_);intros;apply hk;clear hk K)))|apply qw1|refine qwc lvX63E_59 ?_|apply qt1|apply qw5|apply qw2|apply qt4|apply qj1|apply qj2|apply qj4|apply qu1|apply qne|(refine qj6 ?_ ?_<;>intro hc<;>(try simp only [hc])<;>(try simp only [decide_eq_true_eq,decide_eq_false_iff_not] at hc)<;>(try (exfalso;omega)))|(refine qk1 ?_ ?_;focus (repeat (first|exact qsub0|(refine qsub1 ?_ ?_;focus (simp only [go_sem,Nat.reduceEqDiff,↓reduceIte,reduceCtorEq])))))))
   all_goals first
    | exact hQ (hsp (by first|(left;simp only [List.length_append,List.length_singleton];omega)|(right;omega)|(left;omega)|(simp;omega))) _ _ rfl rfl rfl
    | (refine s_again ((k+1,⟨⟨n,ng,na,false⟩,buf,[],out⟩,true)) ?_ ?_ ?_<;>(first|omega|(dsimp only;omega)|skip)
       all_goals first
        | (unfold good63;exact ⟨by dsimp only;omega,hst (by first|omega|(simp only [List.length_append,List.length_singleton];omega)) (by first|omega|simp),by first|exact fun _=>rfl|(intro h;cases h)⟩)
        | (unfold mu63;dsimp only;omega)
        | (simp [T63,M63,fits,fitsT,fitsM,upd_def,PV.nmb,nmbL,MB.nmb,encS_mk,encPrs_nil];done))
set_option maxHeartbeats 40000000 in
theorem w63_8d {s:Bs} {k:Nat} {m:Int} {tg ta:Bs} {ts:Bool} {buf:Bs} {ps:List (Bs×Bs)} {out:List TokD} {pb:Bool} {b:UInt8} {n:Int} {ng na:Bs} {ns:Bool} {Q:AX→AS→Prop}
 (hsl:s.length≤1048576) (hkl:k<s.length) (hb:s.getD k 0=b) (hn:step ⟨m,tg,ta,ts⟩ b=⟨n,ng,na,ns⟩) (hx:TsAt s k ⟨⟨m,tg,ta,ts⟩,buf,ps,out⟩)
 (hpb:pb=true→ps=[]) (hQ:tokM s=none→ ∀ σ j,σ.tmp 2= .own j→σ.mem j=some (.row 29 4 [])→σ.tmp 3= .bool false→Q .ret σ) (hm:m=15) (hns:ns=false):Round63 s (k,⟨⟨m,tg,ta,ts⟩,buf,ps,out⟩,pb) Q:=by
 have hoS:okS ⟨m,tg,ta,ts⟩:=okS_of hx.v
 have hoN:=okS_of (stV_step ⟨m,tg,ta,ts⟩ b)
 rw [hn] at hoN
 have hlo:out.length≤60:=hx.lo
 have hlp:ps.length≤60:=hx.lp
 have hbr:buf.length≤k:=hx.buf
 have hles:m=14→buf≠[]:=hx.less
 have hz:=ts_8 (buf:=buf) (ps:=ps) (out:=out) hn ⟨by omega,by omega,by omega,by omega,by omega,by omega⟩ (by simp only [hns];simp;omega)
 have hst:=fun h1 h2=>hx.step hkl ((congrArg (tsStep _) hb).trans hz) h1 h2
 have hsp:=fun h1=>hx.stop hkl ((congrArg (tsStep _) hb).trans hz) h1
 clear hx
 try dsimp only at hst hsp
 have hbl:=byte_lt s k
 rw [hb] at hbl
 have hsl1:=sl_byte hkl
 rw [hb] at hsl1
 subst hm hns
 unfold Round63 body63
 simp only [Try.f59,firstLoop,Option.getD_some,G63,A63]
 cases pb
 · simp only [T63,M63,mkS,mkT,mkM,cond_false,List.append_nil]
   repeat' (first|(refine qw10 [1] [0,1,2,3,4] [0,1,2,3,4,5,6] ?_ ?_;focus (decide +kernel))|(first|((first|apply qwd|apply qa1|apply qa2|apply qh1|apply qm1|apply qm2|apply qm3|apply qg1 rfl|apply qcd);(try intro K hk);focus (simp only [lvX63E_59,mkT,go_sem,Nat.reduceEqDiff,Nat.reduceAdd,Nat.reduceLeDiff,↓reduceIte,reduceCtorEq,exl,hb,hn,encS_eq,ex_St,encTks_len,encPrs_len,List.length_nil,List.length_cons,Int.reduceEq,Int.reduceLE,decide_true,decide_false,Bool.and_true,Bool.and_false,hsl1];first|exact rfl|((repeat refine ai ?_);intros;apply hk;clear hk K)))|apply qw1|refine qwc lvX63E_59 ?_|apply qt1|apply qw5|apply qw2|apply qt4|apply qj1|apply qj2|apply qj4|apply qj5|apply qu1|apply qne|(refine qj6 ?_ ?_<;>intro hc<;>(try simp only [hc])<;>(try simp only [decide_eq_true_eq,decide_eq_false_iff_not] at hc)<;>(try (exfalso;omega)))|(refine qk1 ?_ ?_;focus (repeat (first|exact qsub0|(refine qsub1 ?_ ?_;focus (simp only [go_sem,Nat.reduceEqDiff,↓reduceIte,reduceCtorEq])))))))
   all_goals first
    | exact hQ (hsp (by first|(left;simp only [List.length_append,List.length_singleton];omega)|(right;omega)|(left;omega)|(simp;omega))) _ _ rfl rfl rfl
    | (refine s_again ((k+1,⟨⟨n,ng,na,false⟩,buf,ps,out⟩,false)) ?_ ?_ ?_<;>(first|omega|(dsimp only;omega)|skip)
       all_goals first
        | (unfold good63;exact ⟨by dsimp only;omega,hst (by first|omega|(simp only [List.length_append,List.length_singleton];omega)) (by first|omega|simp),by first|exact fun _=>rfl|(intro h;cases h)⟩)
        | (unfold mu63;dsimp only;omega)
        | (simp [T63,M63,fits,fitsT,fitsM,upd_def,PV.nmb,nmbL,MB.nmb,encS_mk];done))
 · obtain rfl:ps=[]:=hpb rfl
   simp only [T63,M63,mkS,mkT,mkM,cond_true,List.cons_append,List.nil_append]
   repeat' (first|(refine qw10 [1] [0,1,2,3,4] [0,1,2,3,4,5,6] ?_ ?_;focus (decide +kernel))|(first|((first|apply qwd|apply qa1|apply qa2|apply qh1|apply qm1|apply qm2|apply qm3|apply qg1 rfl|apply qcd);(try intro K hk);focus (simp only [lvX63E_59,mkT,go_sem,Nat.reduceEqDiff,Nat.reduceAdd,Nat.reduceLeDiff,↓reduceIte,reduceCtorEq,exl,hb,hn,encS_eq,ex_St,encTks_len,List.length_nil,List.length_cons,Int.reduceEq,Int.reduceLE,decide_true,decide_false,Bool.and_true,Bool.and_false,hsl1];first|exact rfl|((repeat refine ai ?_);intros;apply hk;clear hk K)))|apply qw1|refine qwc lvX63E_59 ?_|apply qt1|apply qw5|apply qw2|apply qt4|apply qj1|apply qj2|apply qj4|apply qj5|apply qu1|apply qne|(refine qj6 ?_ ?_<;>intro hc<;>(try simp only [hc])<;>(try simp only [decide_eq_true_eq,decide_eq_false_iff_not] at hc)<;>(try (exfalso;omega)))|(refine qk1 ?_ ?_;focus (repeat (first|exact qsub0|(refine qsub1 ?_ ?_;focus (simp only [go_sem,Nat.reduceEqDiff,↓reduceIte,reduceCtorEq])))))))
   all_goals first
    | exact hQ (hsp (by first|(left;simp only [List.length_append,List.length_singleton];omega)|(right;omega)|(left;omega)|(simp;omega))) _ _ rfl rfl rfl
    | (refine s_again ((k+1,⟨⟨n,ng,na,false⟩,buf,[],out⟩,true)) ?_ ?_ ?_<;>(first|omega|(dsimp only;omega)|skip)
       all_goals first
        | (unfold good63;exact ⟨by dsimp only;omega,hst (by first|omega|(simp only [List.length_append,List.length_singleton];omega)) (by first|omega|simp),by first|exact fun _=>rfl|(intro h;cases h)⟩)
        | (unfold mu63;dsimp only;omega)
        | (simp [T63,M63,fits,fitsT,fitsM,upd_def,PV.nmb,nmbL,MB.nmb,encS_mk,encPrs_nil];done))
end Go.Proofs.Ytnbjogilidfkdaa
