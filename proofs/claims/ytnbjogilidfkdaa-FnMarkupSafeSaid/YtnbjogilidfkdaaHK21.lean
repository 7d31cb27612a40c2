/- Printed tokens are read back. Plain. -/
import Derived.Test.YtnbjogilidfkdaaHK3

namespace Go.Proofs.Ytnbjogilidfkdaa
set_option maxRecDepth 100000
set_option linter.unusedVariables false
set_option linter.unusedSimpArgs false
open Go.RowKit
theorem nm_byte: ∀ b:UInt8,okNm b.toNat=true→nmByte b=true∧low1 b=b∧b.toNat≠62∧b.toNat≠32∧b.toNat≠61∧(isLet b=true∨isDig b=true∨b.toNat=45):=all_bytes (by decide)
theorem let_byte: ∀ b:UInt8,97≤b.toNat∧b.toNat≤122→isLet b=true∧low1 b=b∧b.toNat≠62∧b.toNat≠32∧b.toNat≠61:=all_bytes (by decide)
theorem nameB_iff {s:Bs}:nameB s=true↔(1≤s.length∧s.length≤10∧97≤(s.getD 0 0).toNat∧(s.getD 0 0).toNat≤122)∧ ∀ b ∈ s,okNm b.toNat=true:=by
 unfold nameB allB
 rw [Bool.and_eq_true,decide_eq_true_eq,List.all_eq_true]
theorem nameB_cons {c:UInt8} {t:Bs} (h:nameB (c::t)=true):(97≤c.toNat∧c.toNat≤122)∧nameB [c]=true:=by
 rw [nameB_iff] at h
 have h1:97≤c.toNat∧c.toNat≤122:=h.1.2.2
 exact ⟨h1,nameB_one h1⟩
theorem nameB_pre {m t:Bs} (hm:m≠[]) (h:nameB (m++t)=true):nameB m=true:=by
 rw [nameB_iff] at *
 obtain ⟨⟨h1,h2,h3,h4⟩,h5⟩:=h
 cases m with
 | nil=>exact absurd rfl hm
 | cons c r =>
   rw [List.length_append] at h2
   exact ⟨⟨by simp,by omega,h3,h4⟩,fun b hb=>h5 b (List.mem_append_left _ hb)⟩
theorem nameB_mid {m t:Bs} {b:UInt8} (h:nameB (m++b::t)=true):okNm b.toNat=true∧m.length+1≤10:=by
 rw [nameB_iff] at h
 have h2:=h.1.2.1
 rw [List.length_append,List.length_cons] at h2
 exact ⟨h.2 b (by simp),by omega⟩
theorem stV_2 {m:Bs} (h:nameB m=true):stV ⟨2,m,[],false⟩=true:=by simp [stV,tagOk,attrOk,seenOk,h]
theorem stV_3 {m:Bs} (h:nameB m=true):stV ⟨3,m,[],false⟩=true:=by simp [stV,tagOk,attrOk,seenOk,h]
theorem stV_4 {m a:Bs} (h:nameB m=true) (h':nameB a=true):stV ⟨4,m,a,false⟩=true:=by simp [stV,tagOk,attrOk,seenOk,h,h']
theorem stV_5 {m a:Bs} (h:nameB m=true) (h':nameB a=true):stV ⟨5,m,a,false⟩=true:=by simp [stV,tagOk,attrOk,seenOk,h,h']
theorem stV_67 {k:Int} (hk:k=6∨k=7) {m a:Bs} (h:nameB m=true) (h':nameB a=true) (s:Bool):stV ⟨k,m,a,s⟩=true:=by
 rcases hk with rfl|rfl<;>simp [stV,tagOk,attrOk,seenOk,h,h']
theorem stV_9 {m:Bs} (h:m=[]∨nameB m=true):stV ⟨9,m,[],false⟩=true:=by
 rcases h with rfl|h
 · decide
 · simp [stV,tagOk,attrOk,seenOk,h]
theorem stV_1:stV ⟨1,[],[],false⟩=true:=by decide
theorem fold_nil (x:TkI):tkFold x []=some x:=rfl
theorem fold_one {x y:TkI} {b:UInt8} {t:Bs} (h:tkStep x b=some y):tkFold x (b::t)=tkFold y t:=by rw [tkFold_cons,h];rfl
theorem fold_run {x y:TkI} {t u:Bs} (h:tkFold x t=some y):tkFold x (t++u)=tkFold y u:=by rw [tkFold_append,h];rfl
/-- Texts without a bracket. -/
theorem run_text: ∀ (t raw:Bs) (out:List TokD),(∀ b ∈ t,b.toNat≠60)→tkFold ⟨st0,raw,[],out⟩ t=some ⟨st0,raw++t,[],out⟩
 | [],raw,out,_=>by rw [fold_nil,List.append_nil]
 | b::t,raw,out,h=>by
   have hb:=h b List.mem_cons_self
   have hs:step st0 b=st0:=by rw [step_val stV_st0,stepV_0 rfl,if_neg hb]
   have e:tkStep ⟨st0,raw,[],out⟩ b=some ⟨st0,raw++[b],[],out⟩:=by
    rw [tkStep_go (by rw [hs];simp [st0]) (by dsimp only;rw [hs];simp [st0])]
    have hs':=hs
    unfold st0 at hs'
    simp [rawI,prsI,hs',st0]
   rw [fold_one e,run_text t _ out (fun c hc=>h c (List.mem_cons_of_mem _ hc)),List.append_assoc];rfl
/-- A bracket: the text before it is told. -/
def flushT (raw:Bs) (out:List TokD):List TokD:=if raw=[] then out else out++[tkText (unT raw)]
theorem step_lt (raw:Bs) (out:List TokD):tkStep ⟨st0,raw,[],out⟩ 60=some ⟨⟨1,[],[],false⟩,[],[],flushT raw out⟩:=by
 have hs:step st0 60=⟨1,[],[],false⟩:=by decide
 rw [tkStep_go (by rw [hs];simp [st0]) (by dsimp only;rw [hs];simp [st0])]
 have hs':=hs
 unfold st0 at hs'
 simp [rawI,prsI,hs',st0,flushT]
/-- A name behind </. -/
theorem run_end9: ∀ (t m:Bs) (out:List TokD),m≠[]→nameB (m++t)=true→tkFold ⟨⟨9,m,[],false⟩,[],[],out⟩ t=some ⟨⟨9,m++t,[],false⟩,[],[],out⟩
 | [],m,out,_,_=>by rw [fold_nil,List.append_nil]
 | b::t,m,out,hm,h=>by
   obtain ⟨h1,h2⟩:=nameB_mid h
   obtain ⟨g1,g2,g3,g4,g5,g6⟩:=nm_byte b h1
   have hv:=stV_9 (.inr (nameB_pre hm h))
   have hs:step ⟨9,m,[],false⟩ b=⟨9,m++[b],[],false⟩:=by
    rw [step_val hv,stepV_9 rfl,if_neg (by simp [g3])]
    rw [if_pos]
    · unfold longT
      rw [if_neg (by dsimp only;omega),g2]
    · rcases g6 with g|g
      · exact .inl g
      · exact .inr ⟨hm,g⟩
   have e:tkStep ⟨⟨9,m,[],false⟩,[],[],out⟩ b=some ⟨⟨9,m++[b],[],false⟩,[],[],out⟩:=by
    rw [tkStep_go (by rw [hs];simp [st0]) (by dsimp only;omega)]
    simp [rawI,prsI,hs]
   rw [fold_one e,run_end9 t (m++[b]) out (by simp) (by rw [List.append_assoc];exact h),List.append_assoc];rfl
theorem run_end (n raw:Bs) (out:List TokD) (h:nameB n=true):tkFold ⟨st0,raw,[],out⟩ ([60,47]++n++[62])=some ⟨st0,[],[],flushT raw out++[tkEnd n]⟩:=by
 cases n with
 | nil=>rw [nameB_iff] at h;simp at h
 | cons c t =>
   obtain ⟨hc,h1⟩:=nameB_cons h
   obtain ⟨g1,g2,g3,g4,g5⟩:=let_byte c hc
   have e1:tkStep ⟨⟨1,[],[],false⟩,[],[],flushT raw out⟩ 47=some ⟨⟨9,[],[],false⟩,[],[],flushT raw out⟩:=by
    have hs:step ⟨1,[],[],false⟩ 47=⟨9,[],[],false⟩:=by decide
    rw [tkStep_go (by rw [hs];simp [st0]) (by dsimp only;rw [hs];decide)]
    simp [rawI,prsI,hs]
   have e2:tkStep ⟨⟨9,[],[],false⟩,[],[],flushT raw out⟩ c=some ⟨⟨9,[c],[],false⟩,[],[],flushT raw out⟩:=by
    have hs:step ⟨9,[],[],false⟩ c=⟨9,[c],[],false⟩:=by
     rw [step_val (stV_9 (.inl rfl)),stepV_9 rfl,if_neg (by simp),if_pos (.inl g1)]
     unfold longT
     rw [if_neg (by simp),g2];rfl
    rw [tkStep_go (by rw [hs];simp [st0]) (by dsimp only;rw [hs];simp)]
    simp [rawI,prsI,hs]
   have e3:tkStep ⟨⟨9,c::t,[],false⟩,[],[],flushT raw out⟩ 62=some ⟨st0,[],[],flushT raw out++[tkEnd (c::t)]⟩:=by
    have hs:step ⟨9,c::t,[],false⟩ 62=st0:=by
     rw [step_val (stV_9 (.inr h)),stepV_9 rfl,if_pos (by simp)]
    rw [tkStep_go (by rw [hs];simp [st0]) (by dsimp only;rw [hs];simp)]
    simp [rawI,prsI,hs,st0]
   have e4:=run_end9 t [c] (flushT raw out) (by simp) h
   show tkFold _ (60::47::c::(t++[62]))=_
   rw [fold_one (step_lt raw out),fold_one e1,fold_one e2,fold_run e4,List.singleton_append,fold_one e3,fold_nil]
/-- A name behind <. -/
theorem run_tag2: ∀ (t m:Bs) (out:List TokD),m≠[]→nameB (m++t)=true→tkFold ⟨⟨2,m,[],false⟩,[],[],out⟩ t=some ⟨⟨2,m++t,[],false⟩,[],[],out⟩
 | [],m,out,_,_=>by rw [fold_nil,List.append_nil]
 | b::t,m,out,hm,h=>by
   obtain ⟨h1,h2⟩:=nameB_mid h
   obtain ⟨g1,g2,g3,g4,g5,g6⟩:=nm_byte b h1
   have hv:=stV_2 (nameB_pre hm h)
   have hs:step ⟨2,m,[],false⟩ b=⟨2,m++[b],[],false⟩:=by
    rw [step_val hv,stepV_t (.inl rfl)]
    unfold stepTagM longT
    rw [if_neg g3,if_neg g4,if_pos ⟨rfl,g1⟩,if_neg (by dsimp only;omega),g2]
   have e:tkStep ⟨⟨2,m,[],false⟩,[],[],out⟩ b=some ⟨⟨2,m++[b],[],false⟩,[],[],out⟩:=by
    rw [tkStep_go (by rw [hs];simp [st0]) (by dsimp only;rw [hs];simp)]
    simp [rawI,prsI,hs]
   rw [fold_one e,run_tag2 t (m++[b]) out (by simp) (by rw [List.append_assoc];exact h),List.append_assoc];rfl
theorem run_open (n raw:Bs) (out:List TokD) (h:nameB n=true):tkFold ⟨st0,raw,[],out⟩ ([60]++n)=some ⟨⟨2,n,[],false⟩,[],[],flushT raw out⟩:=by
 cases n with
 | nil=>rw [nameB_iff] at h;simp at h
 | cons c t =>
   obtain ⟨hc,h1⟩:=nameB_cons h
   obtain ⟨g1,g2,g3,g4,g5⟩:=let_byte c hc
   have e2:tkStep ⟨⟨1,[],[],false⟩,[],[],flushT raw out⟩ c=some ⟨⟨2,[c],[],false⟩,[],[],flushT raw out⟩:=by
    have hs:step ⟨1,[],[],false⟩ c=⟨2,[c],[],false⟩:=by
     rw [step_val stV_1,stepV_1 rfl,if_pos g1,g2]
    rw [tkStep_go (by rw [hs];simp [st0]) (by dsimp only;rw [hs];simp)]
    simp [rawI,prsI,hs]
   show tkFold _ (60::c::t)=_
   rw [fold_one (step_lt raw out),fold_one e2,run_tag2 t [c] (flushT raw out) (by simp) h];rfl
/-- The name of an attribute. -/
theorem run_attr4: ∀ (t a n:Bs) (ps:List (Bs×Bs)) (out:List TokD),a≠[]→nameB n=true→nameB (a++t)=true→tkFold ⟨⟨4,n,a,false⟩,[],ps++[(a,[])],out⟩ t=some ⟨⟨4,n,a++t,false⟩,[],ps++[(a++t,[])],out⟩
 | [],a,n,ps,out,_,_,_=>by rw [fold_nil,List.append_nil]
 | b::t,a,n,ps,out,hm,hn,h=>by
   obtain ⟨h1,h2⟩:=nameB_mid h
   obtain ⟨g1,g2,g3,g4,g5,g6⟩:=nm_byte b h1
   have hv:=stV_4 hn (nameB_pre hm h)
   have hs:step ⟨4,n,a,false⟩ b=⟨4,n,a++[b],false⟩:=by
    rw [step_val hv,stepV_t (.inr (.inr (.inl rfl)))]
    unfold stepTagM longA
    rw [if_neg g3,if_neg g4,if_neg (by simp),if_neg (by simp),if_pos ⟨rfl,g1⟩,if_neg (by dsimp only;omega),g2]
   have e:tkStep ⟨⟨4,n,a,false⟩,[],ps++[(a,[])],out⟩ b=some ⟨⟨4,n,a++[b],false⟩,[],ps++[(a++[b],[])],out⟩:=by
    rw [tkStep_go (by rw [hs];simp [st0]) (by dsimp only;rw [hs];simp)]
    simp [rawI,prsI,hs,lastP_snoc]
   rw [fold_one e,run_attr4 t (a++[b]) n ps out (by simp) hn (by rw [List.append_assoc];exact h),List.append_assoc];rfl
/-- A value in quotes. -/
theorem run_val {k:Int} {q:Nat} (hk:k=6∧q=34∨k=7∧q=39): ∀ (t v n a:Bs) (s:Bool) (ps:List (Bs×Bs)) (out:List TokD),nameB n=true→nameB a=true→(∀ b ∈ t,b.toNat≠q) →
 tkFold ⟨⟨k,n,a,s⟩,[],ps++[(a,v)],out⟩ t=some ⟨⟨k,n,a,s || !t.isEmpty⟩,[],ps++[(a,v++t)],out⟩
 | [],v,n,a,s,ps,out,_,_,_=>by rw [fold_nil,List.append_nil];simp
 | b::t,v,n,a,s,ps,out,hn,ha,h=>by
   have hb:=h b List.mem_cons_self
   have hv:=stV_67 (by omega:k=6∨k=7) hn ha s
   have hs:step ⟨k,n,a,s⟩ b=⟨k,n,a,true⟩:=by
    rw [step_val hv]
    rcases hk with ⟨rfl,rfl⟩|⟨rfl,rfl⟩
    · rw [stepV_6 rfl,if_neg hb]
    · rw [stepV_7 rfl,if_neg hb]
   have e:tkStep ⟨⟨k,n,a,s⟩,[],ps++[(a,v)],out⟩ b=some ⟨⟨k,n,a,true⟩,[],ps++[(a,v++[b])],out⟩:=by
    rw [tkStep_go (by rw [hs];dsimp only;omega) (by dsimp only;rw [hs];dsimp only;omega)]
    rcases hk with ⟨rfl,rfl⟩|⟨rfl,rfl⟩<;>simp [rawI,prsI,hs,lastP_snoc]
   rw [fold_one e,run_val hk t (v++[b]) n a true ps out hn ha (fun c hc=>h c (List.mem_cons_of_mem _ hc)),List.append_assoc]
   simp
theorem run_pair {k:Int} {q:UInt8} (hk:k=6∧q=34∨k=7∧q=39) (n a v:Bs) (ps:List (Bs×Bs)) (out:List TokD) (m:Int) (hm:m=2∨m=3) (hn:nameB n=true) (ha:nameB a=true) (hv: ∀ b ∈ v,b.toNat≠q.toNat) :
 tkFold ⟨⟨m,n,[],false⟩,[],ps,out⟩ ([32]++a++[61,q]++v++[q])=some ⟨⟨3,n,[],false⟩,[],ps++[(a,v)],out⟩:=by
 cases a with
 | nil=>rw [nameB_iff] at ha;simp at ha
 | cons c t =>
   obtain ⟨hc,h1⟩:=nameB_cons ha
   obtain ⟨g1,g2,g3,g4,g5⟩:=let_byte c hc
   have hq:k=6∧q.toNat=34∨k=7∧q.toNat=39:=by
    rcases hk with ⟨h,rfl⟩|⟨h,rfl⟩
    · exact .inl ⟨h,rfl⟩
    · exact .inr ⟨h,rfl⟩
   have e0:tkStep ⟨⟨m,n,[],false⟩,[],ps,out⟩ 32=some ⟨⟨3,n,[],false⟩,[],ps,out⟩:=by
    have hs:step ⟨m,n,[],false⟩ 32=⟨3,n,[],false⟩:=by
     rcases hm with rfl|rfl
     · rw [step_val (stV_2 hn),stepV_t (.inl rfl)];rfl
     · rw [step_val (stV_3 hn),stepV_t (.inr (.inl rfl))];rfl
    rw [tkStep_go (by rw [hs];simp [st0]) (by dsimp only;rw [hs];simp)]
    rcases hm with rfl|rfl<;>simp [rawI,prsI,hs]
   have e1:tkStep ⟨⟨3,n,[],false⟩,[],ps,out⟩ c=some ⟨⟨4,n,[c],false⟩,[],ps++[([c],[])],out⟩:=by
    have hs:step ⟨3,n,[],false⟩ c=⟨4,n,[c],false⟩:=by
     rw [step_val (stV_3 hn),stepV_t (.inr (.inl rfl))]
     unfold stepTagM longA
     rw [if_neg g3,if_neg g4,if_neg (by simp),if_pos ⟨rfl,g1⟩,if_neg (by simp),g2];rfl
    rw [tkStep_go (by rw [hs];simp [st0]) (by dsimp only;rw [hs];simp)]
    simp [rawI,prsI,hs]
   have e2:=run_attr4 t [c] n ps out (by simp) hn ha
   have e3:tkStep ⟨⟨4,n,c::t,false⟩,[],ps++[(c::t,[])],out⟩ 61=some ⟨⟨5,n,c::t,false⟩,[],ps++[(c::t,[])],out⟩:=by
    have hs:step ⟨4,n,c::t,false⟩ 61=⟨5,n,c::t,false⟩:=by
     rw [step_val (stV_4 hn ha),stepV_t (.inr (.inr (.inl rfl)))];rfl
    rw [tkStep_go (by rw [hs];simp [st0]) (by dsimp only;rw [hs];simp)]
    simp [rawI,prsI,hs]
   have e4:tkStep ⟨⟨5,n,c::t,false⟩,[],ps++[(c::t,[])],out⟩ q=some ⟨⟨k,n,c::t,false⟩,[],ps++[(c::t,[])],out⟩:=by
    have hs:step ⟨5,n,c::t,false⟩ q=⟨k,n,c::t,false⟩:=by
     rw [step_val (stV_5 hn ha),stepV_5 rfl]
     rcases hq with ⟨rfl,hq⟩|⟨rfl,hq⟩
     · rw [if_pos hq]
     · rw [if_neg (by omega),if_pos hq]
    rw [tkStep_go (by rw [hs];dsimp only;omega) (by dsimp only;rw [hs];dsimp only;omega)]
    rcases hq with ⟨rfl,hq⟩|⟨rfl,hq⟩<;>simp [rawI,prsI,hs]
   have e5:=run_val hq v [] n (c::t) false ps out hn ha hv
   have e6: ∀ s,tkStep ⟨⟨k,n,c::t,s⟩,[],ps++[(c::t,v)],out⟩ q=some ⟨⟨3,n,[],false⟩,[],ps++[(c::t,v)],out⟩:=by
    intro s
    have hs:step ⟨k,n,c::t,s⟩ q=⟨3,n,[],false⟩:=by
     rw [step_val (stV_67 (by omega) hn ha s)]
     rcases hq with ⟨rfl,hq⟩|⟨rfl,hq⟩
     · rw [stepV_6 rfl,if_pos hq]
     · rw [stepV_7 rfl,if_pos hq]
    rw [tkStep_go (by rw [hs];simp [st0]) (by dsimp only;rw [hs];simp)]
    rcases hq with ⟨rfl,hq⟩|⟨rfl,hq⟩<;>simp [rawI,prsI,hs]
   have es:[32]++c::t++[61,q]++v++[q]=32::c::(t++(61::q::(v++[q]))):=by simp
   rw [es,fold_one e0,fold_one e1,fold_run e2]
   show tkFold ⟨⟨4,n,c::t,false⟩,[],ps++[(c::t,[])],out⟩ _=_
   rw [fold_one e3,fold_one e4,fold_run e5,List.nil_append,fold_one (e6 _),fold_nil]
/-- A tag ends. -/
theorem run_close {n:Bs} (hn:nameB n=true) (hs:n≠script) (ps:List (Bs×Bs)) (out:List TokD) (m:Int) (hm:m=2∨m=3) (hl:ps.length≤60) :
 tkStep ⟨⟨m,n,[],false⟩,[],ps,out⟩ 62=some ⟨st0,[],[],out++[tkOpen n (unPs ps)]⟩:=by
 have hst:step ⟨m,n,[],false⟩ 62=st0:=by
  rcases hm with rfl|rfl
  · rw [step_val (stV_2 hn),stepV_t (.inl rfl)]
    unfold stepTagM
    rw [if_pos (by decide),if_neg hs]
  · rw [step_val (stV_3 hn),stepV_t (.inr (.inl rfl))]
    unfold stepTagM
    rw [if_pos (by decide),if_neg hs]
 rw [tkStep_end (by rw [hst];simp [st0]) (by dsimp only;rw [hst];exact ⟨by omega,.inl rfl⟩),if_neg (by dsimp only;omega),hst]
def printP (p:Bs×Bs):Bs:=[32]++p.1++[61,34]++escT p.2++[34]
def printT (t:TokD):Bs :=
 if t.kind=1 then escT t.value
 else if t.kind=3 then [60,47]++t.name++[62]
 else if t.kind=4 then [60,33]++t.value++[62]
 else if t.kind=5 then t.value
 else [60]++t.name++t.pairs.flatMap printP++[62]
def printL (l:List TokD):Bs:=l.flatMap printT
theorem printL_cons (t:TokD) (r:List TokD):printL (t::r)=printT t++printL r:=rfl
theorem esc_noq (v:Bs): ∀ b ∈ escT v,b.toNat≠60∧b.toNat≠62∧b.toNat≠34∧b.toNat≠39:=by
 intro b hb
 have:=List.all_eq_true.1 (escT_noSp v) b hb
 unfold noSp at this
 simp at this
 omega
theorem esc_ne {v:Bs} (h:v≠[]):escT v≠[]:=by
 intro e
 have:=unT_esc v
 rw [e,unT_nil] at this
 exact h this.symm
theorem unPs_print (l:List (Bs×Bs)):unPs (l.map fun p=>(p.1,escT p.2))=l:=by
 unfold unPs
 rw [List.map_map]
 conv=>rhs;rw [← List.map_id l]
 refine List.map_congr_left fun p _=>?_
 simp [unT_esc]
theorem run_pairs {n:Bs} (hn:nameB n=true): ∀ (l ps:List (Bs×Bs)) (out:List TokD) (m:Int),(m=2∨m=3)→(∀ p ∈ l,nameB p.1=true) →
 ∃ m',(m'=2∨m'=3)∧tkFold ⟨⟨m,n,[],false⟩,[],ps,out⟩ (l.flatMap printP)=some ⟨⟨m',n,[],false⟩,[],ps++l.map (fun p=>(p.1,escT p.2)),out⟩
 | [],ps,out,m,hm,_=>⟨m,hm,by simp [fold_nil]⟩
 | p::l,ps,out,m,hm,h=>by
   have e:=run_pair (k:=6) (q:=34) (.inl ⟨rfl,rfl⟩) n p.1 (escT p.2) ps out m hm hn (h p List.mem_cons_self) (fun b hb=>(esc_noq p.2 b hb).2.2.1)
   obtain ⟨m',h1,h2⟩:=run_pairs hn l (ps++[(p.1,escT p.2)]) out 3 (.inr rfl) (fun q hq=>h q (List.mem_cons_of_mem _ hq))
   refine ⟨m',h1,?_⟩
   rw [List.flatMap_cons]
   have e':tkFold ⟨⟨m,n,[],false⟩,[],ps,out⟩ (printP p)=some ⟨⟨3,n,[],false⟩,[],ps++[(p.1,escT p.2)],out⟩:=e
   rw [fold_run e',h2,List.append_assoc];rfl
/-- A token that can be read back. -/
def rdT (t:TokD):Prop:=(t.kind=1∧t.name=[]∧t.pairs=[]∧t.value≠[])∨(t.kind=3∧t.value=[]∧t.pairs=[]∧nameB t.name=true) ∨
 (t.kind=2∧t.value=[]∧nameB t.name=true∧t.name≠script∧t.pairs.length≤60∧ ∀ p ∈ t.pairs,nameB p.1=true)
theorem run_tag {n:Bs} (hn:nameB n=true) (hs:n≠script) (ps:List (Bs×Bs)) (hl:ps.length≤60) (hp: ∀ p ∈ ps,nameB p.1=true) (raw:Bs) (out:List TokD) :
 tkFold ⟨st0,raw,[],out⟩ ([60]++n++ps.flatMap printP++[62])=some ⟨st0,[],[],flushT raw out++[tkOpen n ps]⟩:=by
 obtain ⟨m',h1,h2⟩:=run_pairs hn ps [] (flushT raw out) 2 (.inl rfl) hp
 have e:tkFold ⟨st0,raw,[],out⟩ ([60]++n++ps.flatMap printP)=some ⟨⟨m',n,[],false⟩,[],ps.map (fun p=>(p.1,escT p.2)),flushT raw out⟩:=by
  rw [fold_run (run_open n raw out hn),h2,List.nil_append]
 rw [fold_run e,fold_one (run_close hn hs _ _ m' h1 (by rw [List.length_map];exact hl)),fold_nil,unPs_print]
theorem read_list: ∀ (l:List TokD) (raw:Bs) (out:List TokD),(∀ t ∈ l,rdT t)→noAdj l=true→(raw=[]∨ ∀ t,l.head?=some t→t.kind≠1) →
 (tkFold ⟨st0,raw,[],out⟩ (printL l)).bind tkFin=if (flushT raw out++l).length > 60 then none else some (flushT raw out++l)
 | [],raw,out,_,_,_=>by
   show tkFin ⟨st0,raw,[],out⟩=_
   unfold tkFin
   rw [if_neg (by simp [st0]),List.append_nil];rfl
 | t::r,raw,out,h,ha,hr=>by
   have ht:=h t List.mem_cons_self
   have hr': ∀ u ∈ r,rdT u:=fun u hu=>h u (List.mem_cons_of_mem _ hu)
   have ha':noAdj r=true:=by
    cases r with
    | nil=>rfl
    | cons u q=>rw [noAdj_cons,Bool.and_eq_true] at ha;exact ha.2
   rw [printL_cons]
   obtain ⟨k,n,v,ps⟩:=t
   rcases ht with ⟨h1,h2,h3,h4⟩|⟨h1,h2,h3,h4⟩|⟨h1,h2,h3,h4,h5,h6⟩
   · dsimp only at h1 h2 h3 h4
     subst h1 h2 h3
     have hraw:raw=[]:=hr.resolve_right fun h9=>h9 _ rfl rfl
     subst hraw
     have e:tkFold ⟨st0,[],[],out⟩ (printT ⟨1,[],v,[]⟩)=some ⟨st0,escT v,[],out⟩:=by
      rw [show printT ⟨1,[],v,[]⟩=escT v from rfl,run_text (escT v) [] out (fun b hb=>(esc_noq v b hb).1),List.nil_append]
     rw [fold_run e,read_list r (escT v) out hr' ha' (.inr fun u hu=>?_)]
     · have ef:flushT (escT v) out=out++[⟨1,[],v,[]⟩]:=by unfold flushT;rw [if_neg (esc_ne h4),unT_esc];rfl
       have eg:flushT [] out=out:=rfl
       rw [ef,eg,List.append_assoc];rfl
     · cases r with
       | nil=>cases hu
       | cons w q =>
         obtain rfl:w=u:=by simpa using hu
         rw [noAdj_cons,Bool.and_eq_true] at ha
         simpa using ha.1
   · dsimp only at h1 h2 h3 h4
     subst h1 h2 h3
     have e:tkFold ⟨st0,raw,[],out⟩ (printT ⟨3,n,[],[]⟩)=some ⟨st0,[],[],flushT raw out++[tkEnd n]⟩:=run_end n raw out h4
     rw [fold_run e,read_list r [] _ hr' ha' (.inl rfl)]
     have eg: ∀ o,flushT [] o=o:=fun o=>rfl
     rw [eg,List.append_assoc];rfl
   · dsimp only at h1 h2 h3 h4 h5 h6
     subst h1 h2
     have e:tkFold ⟨st0,raw,[],out⟩ (printT ⟨2,n,[],ps⟩)=some ⟨st0,[],[],flushT raw out++[tkOpen n ps]⟩:=run_tag h3 h4 ps h5 h6 raw out
     rw [fold_run e,read_list r [] _ hr' ha' (.inl rfl)]
     have eg: ∀ o,flushT [] o=o:=fun o=>rfl
     rw [eg,List.append_assoc];rfl
/-- Printed tokens are read back. -/
theorem read_print {l:List TokD} (h: ∀ t ∈ l,rdT t) (ha:noAdj l=true) (hl:l.length≤60) (ht:textB (printL l)=true):tokM (printL l)=some l:=by
 unfold tokM
 rw [if_pos ht]
 have:=read_list l [] [] h ha (.inl rfl)
 have e:flushT [] []=[]:=rfl
 rw [e,List.nil_append,if_neg (by omega)] at this
 exact this
end Go.Proofs.Ytnbjogilidfkdaa

/- Valid tokens, printed; clean markup. Plain. -/
namespace Go.Proofs.Ytnbjogilidfkdaa
set_option maxRecDepth 100000
set_option linter.unusedVariables false
set_option linter.unusedSimpArgs false
open Go.RowKit
theorem tok_wf_step {x y:TkI} {b:UInt8} (h: ∀ t ∈ x.out,wfT t) (e:tkStep x b=some y): ∀ t ∈ y.out,wfT t:=by
 have w1: ∀ v,wfT (tkText v):=fun v=>⟨.inl rfl,fun _=>rfl⟩
 have w2: ∀ n ps,wfT (tkOpen n ps):=fun n ps=>⟨.inr (.inl rfl),fun h=>absurd rfl h⟩
 have w3: ∀ n,wfT (tkEnd n):=fun n=>⟨.inr (.inr (.inl rfl)),fun _=>rfl⟩
 have w4: ∀ v,wfT (tkCom v):=fun v=>⟨.inr (.inr (.inr (.inl rfl))),fun _=>rfl⟩
 have w5: ∀ v,wfT (tkScr v):=fun v=>⟨.inr (.inr (.inr (.inr rfl))),fun _=>rfl⟩
 have app: ∀ u,wfT u→ ∀ t ∈ x.out++[u],wfT t:=by
  intro u hu t ht
  rcases List.mem_append.1 ht with ht|ht
  · exact h t ht
  · obtain rfl:t=u:=by simpa using ht
    exact hu
 unfold tkStep at e
 split at e
 · cases e
 split at e
 · split at e
   · cases e
   · cases e;exact app _ (w2 _ _)
 · cases e
   dsimp only
   unfold rawI
   (repeat' split)<;>first
     | exact h
     | exact app _ (w1 _)
     | exact app _ (w3 _)
     | exact app _ (w4 _)
     | exact app _ (w5 _)
theorem tok_wf_fold: ∀ (t:Bs) {x y:TkI},(∀ t ∈ x.out,wfT t)→tkFold x t=some y→ ∀ t ∈ y.out,wfT t
 | [],x,y,h,e=>by cases e;exact h
 | b::t,x,y,h,e=>by
   rw [tkFold_cons] at e
   cases hq:tkStep x b with
   | none=>rw [hq] at e;cases e
   | some z=>rw [hq] at e;exact tok_wf_fold t (tok_wf_step h hq) e
theorem tok_wf {s:Bs} {l:List TokD} (h:tokM s=some l):(∀ t ∈ l,wfT t)∧l.length≤60:=by
 unfold tokM at h
 split at h
 · cases hf:tkFold tkI0 s with
   | none=>rw [hf] at h;cases h
   | some y =>
     rw [hf] at h
     have hw:=tok_wf_fold s (x:=tkI0) (fun t ht=>by cases ht) hf
     have h:tkFin y=some l:=h
     unfold tkFin at h
     have hz: ∀ t ∈ (if y.raw=[] then y.out else y.out++[tkText (unT y.raw)]),wfT t:=by
      split
      · exact hw
      · intro t ht
        rcases List.mem_append.1 ht with ht|ht
        · exact hw t ht
        · obtain rfl:t=_:=by simpa using ht
          exact ⟨.inl rfl,fun _=>rfl⟩
     generalize (if y.raw=[] then y.out else y.out++[tkText (unT y.raw)])=Z at h hz
     split at h
     · cases h
     split at h
     · cases h
     · cases h
       exact ⟨hz,by omega⟩
 · cases h
def scrIn:St→Bs→Bool
 | _,[]=>true
 | s,b::t=>decide (11≤(step s b).mode∧(step s b).mode≤14) && scrIn (step s b) t
def scrOk (v:Bs):Bool:=scrIn ⟨11,[],[],false⟩ v && (decide ((run ⟨11,[],[],false⟩ v).mode=11) || decide ((run ⟨11,[],[],false⟩ v).mode=14))
def insideT (b:TokD):Bool:=decide (b.kind=2) && decide (b.name=script)
def tvT (b t:TokD):Bool :=
 if t.kind=1 then decide (t.name=[]) && decide (t.pairs=[]) && decide (t.value≠[]) && textB t.value && decide (b.kind≠1) && !insideT b && decide (b.kind≠5)
 else if t.kind=2 then t.pairs.all (fun p=>nameB p.1 && textB p.2) && nameB t.name && decide (t.value=[]) && decide (t.pairs.length≤60) && !insideT b && decide (b.kind≠5)
 else if t.kind=3 then nameB t.name && decide (t.value=[]) && decide (t.pairs=[])
 else if t.kind=4 then decide (t.name=[]) && decide (t.pairs=[]) && textB t.value && (t.value.all fun c=>decide (c.toNat≠62)) && !insideT b && decide (b.kind≠5)
 else if t.kind=5 then insideT b && decide (t.name=[]) && decide (t.pairs=[]) && decide (t.value≠[]) && textB t.value && scrOk t.value
 else false
def tk0:TokD:=⟨0,[],[],[]⟩
def tvF:TokD→List TokD→Bool
 | b,[]=>!(decide (b.kind=5) || insideT b)
 | b,t::r=>tvT b t && tvF t r
def tvM (l:List TokD):Bool:=tvF tk0 l && decide (l.length≤60)
def ptM (l:List TokD):Option Bs:=if tvM l=true∧(printL l).length≤600 then some (printL l) else none
theorem tvF_all: ∀ (l:List TokD) (b:TokD),tvF b l=true→ ∀ t ∈ l,∃ b,tvT b t=true
 | [],b,h=>by intro t ht;cases ht
 | t::r,b,h=>by
   rw [tvF,Bool.and_eq_true] at h
   intro u hu
   rcases List.mem_cons.1 hu with rfl|hu
   · exact ⟨b,h.1⟩
   · exact tvF_all r t h.2 u hu
theorem okB_text {s:Bs} (h:textB s=true): ∀ b ∈ s,okByte b.toNat=true:=by
 unfold textB allB at h
 rw [Bool.and_eq_true,List.all_eq_true] at h
 exact h.2
theorem okB_name: ∀ b:UInt8,okNm b.toNat=true→okByte b.toNat=true:=all_bytes (by decide)
theorem okB_ent: ∀ b:UInt8,okByte b.toNat=true→(ent1 b).all (fun c=>okByte c.toNat)=true:=all_bytes (by decide)
theorem okB_esc {s:Bs} (h: ∀ b ∈ s,okByte b.toNat=true): ∀ b ∈ escT s,okByte b.toNat=true:=by
 intro b hb
 unfold escT at hb
 obtain ⟨c,hc,hb⟩:=List.mem_flatMap.1 hb
 exact List.all_eq_true.1 (okB_ent c (h c hc)) b hb
theorem okB_nm {s:Bs} (h:nameB s=true): ∀ b ∈ s,okByte b.toNat=true:=fun b hb=>okB_name b ((nameB_iff.1 h).2 b hb)
def okL' (s:Bs):Prop:= ∀ b ∈ s,okByte b.toNat=true
theorem okL_app {s t:Bs} (h:okL' s) (h':okL' t):okL' (s++t):=fun b hb=>(List.mem_append.1 hb).elim (h b) (h' b)
theorem okL_lit {s:Bs} (h:(s.all fun c=>okByte c.toNat)=true):okL' s:=List.all_eq_true.1 h
theorem okB_print {b t:TokD} (h:tvT b t=true):okL' (printT t):=by
 unfold tvT at h
 unfold printT
 obtain ⟨k,n,v,ps⟩:=t
 dsimp only at *
 split at h
 · rename_i hk
   rw [if_pos hk]
   simp only [Bool.and_eq_true,decide_eq_true_eq] at h
   exact okB_esc (okB_text h.1.1.1.2)
 rename_i h1
 rw [if_neg h1]
 split at h
 · rename_i hk
   rw [if_neg (by omega),if_neg (by omega),if_neg (by omega)]
   simp only [Bool.and_eq_true,decide_eq_true_eq,List.all_eq_true] at h
   refine okL_app (okL_app (okL_app (okL_lit (by decide)) (okB_nm h.1.1.1.1.2)) ?_) (okL_lit (by decide))
   intro b hb
   obtain ⟨p,hp,hb⟩:=List.mem_flatMap.1 hb
   obtain ⟨g1,g2⟩:=h.1.1.1.1.1 p hp
   exact (okL_app (okL_app (okL_app (okL_app (okL_lit (by decide)) (okB_nm g1)) (okL_lit (by decide))) (okB_esc (okB_text g2))) (okL_lit (by decide))) b hb
 split at h
 · rename_i hk
   rw [if_pos hk]
   simp only [Bool.and_eq_true,decide_eq_true_eq] at h
   exact okL_app (okL_app (okL_lit (by decide)) (okB_nm h.1.1)) (okL_lit (by decide))
 rename_i h2 h3
 rw [if_neg h3]
 split at h
 · rename_i hk
   rw [if_pos hk]
   simp only [Bool.and_eq_true,decide_eq_true_eq] at h
   exact okL_app (okL_app (okL_lit (by decide)) (okB_text h.1.1.1.2)) (okL_lit (by decide))
 rename_i h4
 rw [if_neg h4]
 split at h
 · rename_i hk
   rw [if_pos hk]
   simp only [Bool.and_eq_true,decide_eq_true_eq] at h
   exact okB_text h.1.2
 · cases h
theorem okB_printL {l:List TokD} (h:tvM l=true):okL' (printL l):=by
 unfold tvM at h
 rw [Bool.and_eq_true] at h
 intro b hb
 obtain ⟨t,ht,hb⟩:=List.mem_flatMap.1 hb
 obtain ⟨b0,hv⟩:=tvF_all l tk0 h.1 t ht
 exact okB_print hv b hb
theorem textB_iff {s:Bs}:textB s=true↔s.length≤600∧ ∀ b ∈ s,okByte b.toNat=true:=by
 unfold textB allB
 rw [Bool.and_eq_true,decide_eq_true_eq,List.all_eq_true]
theorem printL_text {l:List TokD} (h:tvM l=true):textB (printL l)=decide ((printL l).length≤600):=by
 have:=okB_printL h
 by_cases hl:(printL l).length≤600
 · rw [decide_eq_true hl,textB_iff];exact ⟨hl,this⟩
 · rw [decide_eq_false hl]
   cases ht:textB (printL l) with
   | false=>rfl
   | true=>exact absurd (textB_iff.1 ht).1 hl
def cmM (s:Bs):Option Bs:=(tokM s).bind fun l=>ptM (cleanMk l)
def msM (s:Bs):Bool:=match tokM s with
 | some l=>mkSafe l
 | none=>false
theorem good_rd {t b:TokD} (h:goodT t) (hv:tvT b t=true):rdT t:=by
 obtain ⟨h1,h2,h3⟩:=h
 unfold tvT at hv
 obtain ⟨k,n,v,ps⟩:=t
 dsimp only at *
 rcases h1 with rfl|rfl|rfl
 · rw [if_pos rfl] at hv
   simp only [Bool.and_eq_true,decide_eq_true_eq] at hv
   exact .inl ⟨rfl,hv.1.1.1.1.1.1,hv.1.1.1.1.1.2,hv.1.1.1.1.2⟩
 · rw [if_neg (by omega),if_pos rfl] at hv
   simp only [Bool.and_eq_true,decide_eq_true_eq,List.all_eq_true] at hv
   refine .inr (.inr ⟨rfl,hv.1.1.1.2,hv.1.1.1.1.2,?_,hv.1.1.2,fun p hp=>(hv.1.1.1.1.1 p hp).1⟩)
   intro e
   have:=h2 (by omega)
   dsimp only at e
   rw [e] at this
   revert this;decide
 · rw [if_neg (by omega),if_neg (by omega),if_pos rfl] at hv
   simp only [Bool.and_eq_true,decide_eq_true_eq] at hv
   exact .inr (.inl ⟨rfl,hv.1.2,hv.2,hv.1.1⟩)
theorem clean_read {s x:Bs} (h:cmM s=some x): ∃ l,tokM x=some l∧mkSafe l=true∧cleanMk l=l∧ptM l=some x:=by
 unfold cmM at h
 cases ht:tokM s with
 | none=>rw [ht] at h;cases h
 | some l =>
   rw [ht] at h
   have h:ptM (cleanMk l)=some x:=h
   obtain ⟨hw,_⟩:=tok_wf ht
   have hp:=h
   unfold ptM at h
   split at h
   · rename_i hv
     cases h
     have hg:=clean_good hw
     have hv1:=hv.1
     unfold tvM at hv1
     rw [Bool.and_eq_true,decide_eq_true_eq] at hv1
     refine ⟨cleanMk l,read_print (fun t ht=>?_) (clean_noAdj l) hv1.2 ?_,clean_safe hw,clean_clean hw,hp⟩
     · obtain ⟨b,hb⟩:=tvF_all _ tk0 hv1.1 t ht
       exact good_rd (hg t ht) hb
     · rw [printL_text hv.1,decide_eq_true hv.2]
   · cases h
/-- Clean markup is safe, and stays as it is. -/
theorem clean_law {s x:Bs} (h:cmM s=some x):msM x=true∧cmM x=some x:=by
 obtain ⟨l,h1,h2,h3,h4⟩:=clean_read h
 unfold msM cmM
 rw [h1]
 exact ⟨h2,by show ptM (cleanMk l)=_;rw [h3];exact h4⟩
def txtL1 (s:Bs):List TokD:=if s=[] then [] else [tkText s]
theorem print_txt (s:Bs):printL (txtL1 s)=escT s:=by
 unfold txtL1
 split
 · rename_i h;subst h;rfl
 · simp [printL,printT,tkText]
theorem esc_text {s:Bs} (h:textB s=true) (hl:s.length≤100):textB (escT s)=true:=by
 rw [textB_iff] at *
 have:=escT_len s
 exact ⟨by omega,okB_esc h.2⟩
theorem tok_esc {s:Bs} (h:textB s=true) (hl:s.length≤100):tokM (escT s)=some (txtL1 s):=by
 have e:=print_txt s
 rw [← e]
 refine read_print ?_ ?_ ?_ (by rw [e];exact esc_text h hl)
 · intro t ht
   unfold txtL1 at ht
   split at ht
   · cases ht
   · rename_i hne
     obtain rfl:t=tkText s:=by simpa using ht
     exact .inl ⟨rfl,rfl,rfl,hne⟩
 · unfold txtL1;split<;>rfl
 · unfold txtL1;split<;>simp
theorem safe_txt (s:Bs):mkSafe (txtL1 s)=true:=by
 unfold txtL1
 split
 · rfl
 · rfl
theorem esc_safe {s:Bs} (h:textB s=true) (hl:s.length≤100):msM (escT s)=true:=by
 unfold msM
 rw [tok_esc h hl]
 exact safe_txt s
end Go.Proofs.Ytnbjogilidfkdaa

/- Sizes of tokens. Plain. -/
namespace Go.Proofs.Ytnbjogilidfkdaa
set_option maxRecDepth 100000
set_option linter.unusedVariables false
set_option linter.unusedSimpArgs false
open Go.RowKit
def bdP (N:Nat) (p:Bs×Bs):Prop:=p.1.length≤10∧p.2.length≤N
def bdT (N:Nat) (t:TokD):Prop:=t.name.length≤10∧t.value.length≤N∧t.pairs.length≤60∧ ∀ p ∈ t.pairs,bdP N p
theorem bdT_mono {N M:Nat} {t:TokD} (h:bdT N t) (hm:N≤M):bdT M t:=by
 obtain ⟨h1,h2,h3,h4⟩:=h
 exact ⟨h1,by omega,h3,fun p hp=>⟨(h4 p hp).1,by have:=(h4 p hp).2;omega⟩⟩
structure BdI (N:Nat) (x:TkI):Prop where
 v:stV x.s=true
 raw:x.raw.length≤N
 out: ∀ t ∈ x.out,bdT N t
 ps: ∀ p ∈ x.ps,bdP N p
theorem bd_snoc {N:Nat} {l:List TokD} {u:TokD} (h: ∀ t ∈ l,bdT N t) (hu:bdT N u): ∀ t ∈ l++[u],bdT N t:=by
 intro t ht
 rcases List.mem_append.1 ht with ht|ht
 · exact h t ht
 · obtain rfl:t=u:=by simpa using ht
   exact hu
theorem last_mem {g:Bs×Bs→Bs×Bs}: ∀ {l:List (Bs×Bs)} {p:Bs×Bs},p ∈ lastP g l→p ∈ l∨ ∃ q ∈ l,p=g q
 | [],p,h=>by cases h
 | [q],p,h=>by
   obtain rfl:p=g q:=by simpa [lastP] using h
   exact .inr ⟨q,by simp,rfl⟩
 | q::r::l,p,h=>by
   have h:p ∈ q::lastP g (r::l):=h
   rcases List.mem_cons.1 h with rfl|h
   · exact .inl (by simp)
   · rcases last_mem h with h|⟨u,hu,e⟩
     · exact .inl (List.mem_cons_of_mem _ h)
     · exact .inr ⟨u,List.mem_cons_of_mem _ hu,e⟩
theorem bd_step {N:Nat} {x y:TkI} {b:UInt8} (h:BdI N x) (e:tkStep x b=some y):BdI (N+1) y:=by
 obtain ⟨hv,hr,ho,hp⟩:=h
 have hv':=stV_step x.s b
 have ht:=stV_tag_len hv
 have ha:=stV_attr_len hv'
 have ho': ∀ t ∈ x.out,bdT (N+1) t:=fun t ht=>bdT_mono (ho t ht) (by omega)
 have hp': ∀ p ∈ x.ps,bdP (N+1) p:=fun p hq=>⟨(hp p hq).1,by have:=(hp p hq).2;omega⟩
 have hu:=unT_len x.raw
 have b1:bdT (N+1) (tkText (unT x.raw)):=⟨by simp [tkText],by show (unT x.raw).length≤_;omega,by simp [tkText],fun p hp=>by cases hp⟩
 have b3:bdT (N+1) (tkEnd x.s.tag):=⟨ht,by simp [tkEnd],by simp [tkEnd],fun p hp=>by cases hp⟩
 have b4:bdT (N+1) (tkCom x.raw):=⟨by simp [tkCom],by show x.raw.length≤_;omega,by simp [tkCom],fun p hp=>by cases hp⟩
 have b5:bdT (N+1) (tkScr x.raw.dropLast):=⟨by simp [tkScr],by show x.raw.dropLast.length≤_;rw [List.length_dropLast];omega,by simp [tkScr],fun p hp=>by cases hp⟩
 unfold tkStep at e
 generalize step x.s b=n at *
 split at e
 · cases e
 split at e
 · split at e
   · cases e
   · rename_i hl
     cases e
     refine ⟨hv',by dsimp only;omega,bd_snoc ho' ⟨ht,by simp [tkOpen],by show (unPs x.ps).length≤60;rw [unPs_len];omega,fun p hq=>?_⟩,fun p hp=>by cases hp⟩
     have hq:p ∈ unPs x.ps:=hq
     unfold unPs at hq
     obtain ⟨q,hq2,rfl⟩:=List.mem_map.1 hq
     have:=unT_len q.2
     exact ⟨(hp' q hq2).1,by have:=(hp' q hq2).2;dsimp only;omega⟩
 · cases e
   refine ⟨hv',?_,?_,?_⟩
   · dsimp only
     unfold rawI
     (repeat' split)<;>simp<;>omega
   · dsimp only
     unfold rawI
     (repeat' split)<;>first
       | exact ho'
       | exact bd_snoc ho' b1
       | exact bd_snoc ho' b3
       | exact bd_snoc ho' b4
       | exact bd_snoc ho' b5
   · dsimp only
     unfold prsI
     split
     · intro p hp;cases hp
     split
     · split
       · intro p hq
         rcases List.mem_append.1 hq with hq|hq
         · exact hp' p hq
         · obtain rfl:p=(n.attr,[]):=by simpa using hq
           exact ⟨ha,by simp⟩
       split
       · intro p hq
         rcases last_mem hq with hq|⟨q,hq2,rfl⟩
         · exact hp' p hq
         · exact ⟨ha,(hp' q hq2).2⟩
       split
       · intro p hq
         rcases last_mem hq with hq|⟨q,hq2,rfl⟩
         · exact hp' p hq
         · exact ⟨(hp q hq2).1,by dsimp only;rw [List.length_append,List.length_singleton];have:=(hp q hq2).2;omega⟩
       split
       · intro p hp;cases hp
       · exact hp'
     · exact hp'
theorem bd_fold: ∀ (t:Bs) {N:Nat} {x y:TkI},BdI N x→tkFold x t=some y→BdI (N+t.length) y
 | [],N,x,y,h,e=>by cases e;exact h
 | b::t,N,x,y,h,e=>by
   rw [tkFold_cons] at e
   cases hq:tkStep x b with
   | none=>rw [hq] at e;cases e
   | some z =>
     rw [hq] at e
     rw [List.length_cons,show N+(t.length+1)=N+1+t.length by omega]
     exact bd_fold t (bd_step h hq) e
theorem tok_bd {s:Bs} {l:List TokD} (h:tokM s=some l):l.length≤60∧ ∀ t ∈ l,bdT 600 t:=by
 refine ⟨(tok_wf h).2,?_⟩
 unfold tokM at h
 split at h
 · rename_i ht
   have hl:=(textB_iff.1 ht).1
   cases hf:tkFold tkI0 s with
   | none=>rw [hf] at h;cases h
   | some y =>
     rw [hf] at h
     have hb:BdI (0+s.length) y:=bd_fold s (x:=tkI0) ⟨stV_st0,Nat.le_refl _,(fun t ht=>by cases ht),(fun p hp=>by cases hp)⟩ hf
     have ho: ∀ t ∈ y.out,bdT 600 t:=fun t ht=>bdT_mono (hb.out t ht) (by omega)
     have h:tkFin y=some l:=h
     unfold tkFin at h
     have hz: ∀ t ∈ (if y.raw=[] then y.out else y.out++[tkText (unT y.raw)]),bdT 600 t:=by
      split
      · exact ho
      · have:=unT_len y.raw
        have:=hb.raw
        exact bd_snoc ho ⟨by simp [tkText],by show (unT y.raw).length≤_;omega,by simp [tkText],fun p hp=>by cases hp⟩
     generalize (if y.raw=[] then y.out else y.out++[tkText (unT y.raw)])=Z at h hz
     split at h
     · cases h
     split at h
     · cases h
     · cases h
       exact hz
 · cases h
theorem keep_bd {N:Nat} {l:List TokD} (h: ∀ t ∈ l,bdT N t):(keepMk l).length≤l.length∧ ∀ t ∈ keepMk l,bdT N t:=by
 unfold keepMk
 refine ⟨by rw [List.length_map];exact List.length_filter_le _ _,fun t ht=>?_⟩
 obtain ⟨u,hu,rfl⟩:=List.mem_map.1 ht
 obtain ⟨h1,h2,h3,h4⟩:=h u (List.mem_filter.1 hu).1
 exact ⟨h1,h2,Nat.le_trans (List.length_filter_le _ _) h3,fun p hp=>h4 p (List.mem_filter.1 hp).1⟩
theorem close_bd {N:Nat}: ∀ (l:List TokD) (st:List Bs),(∀ t ∈ l,bdT N t)→(∀ n ∈ st,n.length≤10)→(closeF st l).length≤2 * l.length+st.length∧ ∀ t ∈ closeF st l,bdT N t
 | [],st,_,hs=>by
   rw [close_nil]
   refine ⟨by simp,fun t ht=>?_⟩
   obtain ⟨n,hn,rfl⟩:=List.mem_map.1 ht
   exact ⟨hs n hn,by simp [tkEnd],by simp [tkEnd],fun p hp=>by cases hp⟩
 | t::r,st,h,hs=>by
   have ht:=h t List.mem_cons_self
   have hr: ∀ u ∈ r,bdT N u:=fun u hu=>h u (List.mem_cons_of_mem _ hu)
   have cons: ∀ {m:List TokD},(∀ u ∈ m,bdT N u)→ ∀ u ∈ t::m,bdT N u:=by
    intro m hm u hu
    rcases List.mem_cons.1 hu with rfl|hu
    · exact ht
    · exact hm u hu
   by_cases h3:t.kind=3
   · rw [close_3 h3]
     cases st with
     | nil =>
       have:=close_bd r [] hr hs
       exact ⟨by rw [List.length_cons];have:=this.1;dsimp only at *;omega,this.2⟩
     | cons n q =>
       dsimp only
       split
       · have:=close_bd r q hr (fun m hm=>hs m (List.mem_cons_of_mem _ hm))
         exact ⟨by simp only [List.length_cons];have:=this.1;omega,cons this.2⟩
       · have:=close_bd r (n::q) hr hs
         exact ⟨by rw [List.length_cons];have:=this.1;omega,this.2⟩
   · by_cases h2:t.kind=2∧voidN t.name=false
     · rw [close_2 h2.1 h2.2]
       have:=close_bd r (t.name::st) hr (fun m hm=>by
        rcases List.mem_cons.1 hm with rfl|hm
        · exact ht.1
        · exact hs m hm)
       have h9:=this.1
       rw [List.length_cons] at h9
       exact ⟨by simp only [List.length_cons];omega,cons this.2⟩
     · rw [close_o h3 h2]
       have:=close_bd r st hr hs
       exact ⟨by simp only [List.length_cons];have:=this.1;omega,cons this.2⟩
def wtVs (l:List TokD):Nat:=(l.map fun t=>t.value.length).sum
theorem wtVs_le {N:Nat}: ∀ {l:List TokD},(∀ t ∈ l,bdT N t)→wtVs l≤l.length * N
 | [],_=>by simp [wtVs]
 | t::r,h=>by
   have h1:=(h t List.mem_cons_self).2.1
   have h2:=wtVs_le (l:=r) (fun u hu=>h u (List.mem_cons_of_mem _ hu))
   have e:wtVs (t::r)=t.value.length+wtVs r:=by simp [wtVs]
   rw [e,List.length_cons,Nat.add_mul]
   omega
def bdV (M:Nat) (N:Nat) (t:TokD):Prop:=t.name.length≤10∧t.value.length≤M∧t.pairs.length≤60∧ ∀ p ∈ t.pairs,bdP N p
theorem join_bd {N M:Nat} {l:List TokD} (h: ∀ t ∈ l,bdT N t) (hM:wtVs l≤M):(joinM l).length≤l.length∧ ∀ t ∈ joinM l,bdV M N t:=by
 have key: ∀ (l q:List TokD),(∀ t ∈ l,bdT N t)→wtVs q+wtVs l≤M→(∀ t ∈ q,bdV (wtVs q) N t)→(l.foldl addT q).length≤q.length+l.length∧ ∀ t ∈ l.foldl addT q,bdV M N t:=by
  intro l
  induction l with
  | nil =>
    intro q _ hM hq
    refine ⟨Nat.le_refl _,fun t ht=>?_⟩
    obtain ⟨h1,h2,h3,h4⟩:=hq t ht
    exact ⟨h1,by have:wtVs q≤M:=by simpa [wtVs] using hM
                 omega,h3,h4⟩
  | cons t r ih =>
    intro q hl hM hq
    have ht:=hl t List.mem_cons_self
    have e:wtVs (t::r)=t.value.length+wtVs r:=by simp [wtVs]
    have hadd:wtVs (addT q t)=wtVs q+t.value.length∧(addT q t).length≤q.length+1∧ ∀ u ∈ addT q t,bdV (wtVs q+t.value.length) N u:=by
     rcases snoc_cases q with rfl|⟨p,v,rfl⟩
     · refine ⟨by simp [addT_nil,wtVs],by simp [addT_nil],fun u hu=>?_⟩
       obtain rfl:u=t:=by simpa [addT_nil] using hu
       exact ⟨ht.1,by omega,ht.2.2⟩
     · rw [addT_snoc]
       have hup: ∀ u ∈ p++[v],bdV (wtVs (p++[v])+t.value.length) N u:=fun u hu=>⟨(hq u hu).1,by have:=(hq u hu).2.1;omega,(hq u hu).2.2⟩
       split
       · refine ⟨by simp [wtVs];omega,by simp,fun u hu=>?_⟩
         rcases List.mem_append.1 hu with hu|hu
         · exact hup u (List.mem_append_left _ hu)
         · obtain rfl:u=_:=by simpa using hu
           have hv:=hq v (by simp)
           exact ⟨hv.1,by dsimp only;rw [List.length_append];have:=hv.2.1;omega,hv.2.2⟩
       · refine ⟨by simp [wtVs];omega,by simp,fun u hu=>?_⟩
         rcases List.mem_append.1 hu with hu|hu
         · exact hup u (List.mem_append_left _ hu)
         · rcases List.mem_cons.1 hu with rfl|hu
           · exact hup u (by simp)
           · obtain rfl:u=t:=by simpa using hu
             exact ⟨ht.1,by omega,ht.2.2⟩
    rw [List.foldl_cons]
    have:=ih (addT q t) (fun u hu=>hl u (List.mem_cons_of_mem _ hu)) (by rw [hadd.1];omega) (by rw [hadd.1];exact hadd.2.2)
    exact ⟨by rw [List.length_cons];have:=this.1;have:=hadd.2.1;omega,this.2⟩
 have:=key l [] h (by simpa [wtVs] using hM) (fun t ht=>by cases ht)
 exact ⟨by have h9:=this.1;rw [List.length_nil,Nat.zero_add] at h9;exact h9,this.2⟩
theorem clean_bd {l:List TokD} (h:l.length≤60) (h': ∀ t ∈ l,bdT 600 t):(cleanMk l).length≤120∧ ∀ t ∈ cleanMk l,bdT 72000 t:=by
 obtain ⟨h1,h2⟩:=keep_bd h'
 obtain ⟨h3,h4⟩:=close_bd (keepMk l) [] h2 (fun n hn=>by cases hn)
 have h5:=wtVs_le h4
 rw [List.length_nil] at h3
 have h6:wtVs (closeF [] (keepMk l))≤72000:=by
  have:(closeF [] (keepMk l)).length * 600≤120 * 600:=Nat.mul_le_mul_right _ (by omega)
  omega
 obtain ⟨h7,h8⟩:=join_bd h4 h6
 refine ⟨by show (joinM _).length≤120;omega,fun t ht=>?_⟩
 obtain ⟨a1,a2,a3,a4⟩:=h8 t ht
 exact ⟨a1,a2,a3,fun p hp=>⟨(a4 p hp).1,by have:=(a4 p hp).2;omega⟩⟩
end Go.Proofs.Ytnbjogilidfkdaa

/- Tokens as cells; how deep they are open. Plain. -/
namespace Go.Proofs.Ytnbjogilidfkdaa
set_option maxRecDepth 100000
set_option linter.unusedVariables false
set_option linter.unusedSimpArgs false
open Go.RowKit
theorem encTk_mk (k:Int) (n v:Bs) (ps:List (Bs×Bs)):encTk ⟨k,n,v,ps⟩=[.int .i64 k,.str n,.str v,.seq (encPrs ps)]:=rfl
theorem encTks_len (l:List TokD):(encTks l).length=l.length:=by simp [encTks]
theorem encTks_get (l:List TokD) (k:Nat):(encTks l)[k]?=(l[k]?).map encTk:=by simp [encTks]
theorem encTks_app (a b:List TokD):encTks (a++b)=encTks a++encTks b:=by simp [encTks]
theorem encTks_pt (a:List TokD) (k:Int) (n v:Bs) (ps:List (Bs×Bs)):encTks a++[[.int .i64 k,.str n,.str v,.seq (encPrs ps)]]=encTks (a++[⟨k,n,v,ps⟩]):=by rw [encTks_app];rfl
theorem encTks_nil:encTks []=[]:=rfl
theorem encTks_all (l:List TokD):(∀ e ∈ encTks l,e.length=4)=True:=eq_true (by
 intro e he
 obtain ⟨t,_,rfl⟩:=List.mem_map.1 he;rfl)
theorem encPrs_len (l:List (Bs×Bs)):(encPrs l).length=l.length:=by simp [encPrs]
theorem encPrs_get (l:List (Bs×Bs)) (k:Nat):(encPrs l)[k]?=(l[k]?).map encPr:=by simp [encPrs]
theorem encPrs_app (a b:List (Bs×Bs)):encPrs (a++b)=encPrs a++encPrs b:=by simp [encPrs]
theorem encPrs_pt (a:List (Bs×Bs)) (n v:Bs):encPrs a++[[.str n,.str v]]=encPrs (a++[(n,v)]):=by rw [encPrs_app];rfl
theorem encPrs_nil:encPrs []=[]:=rfl
theorem encPrs_all (l:List (Bs×Bs)):(∀ e ∈ encPrs l,e.length=2)=True:=eq_true (by
 intro e he
 obtain ⟨t,_,rfl⟩:=List.mem_map.1 he;rfl)
theorem encPr_inj {x y:Bs×Bs} (h:encPr x=encPr y):x=y:=by
 obtain ⟨a,b⟩:=x
 obtain ⟨c,d⟩:=y
 simp [encPr] at h
 rw [h.1,h.2]
theorem encPrs_inj {a b:List (Bs×Bs)} (h:encPrs a=encPrs b):a=b:=(List.map_inj_right (fun x y e=>encPr_inj e)).1 h
theorem encPrs_iff {a b:List (Bs×Bs)}:encPrs a=encPrs b↔a=b:=⟨encPrs_inj,fun h=>h ▸ rfl⟩
theorem encTk_inj {x y:TokD} (h:encTk x=encTk y):x=y:=by
 obtain ⟨k,n,v,ps⟩:=x
 obtain ⟨k',n',v',ps'⟩:=y
 rw [encTk_mk,encTk_mk] at h
 simp only [List.cons.injEq,PV.int.injEq,PV.str.injEq,PV.seq.injEq,true_and,and_true] at h
 obtain ⟨rfl,rfl,rfl,h⟩:=h
 rw [encPrs_inj h]
theorem encTks_inj {a b:List TokD} (h:encTks a=encTks b):a=b:=(List.map_inj_right (fun x y e=>encTk_inj e)).1 h
theorem encTks_iff {a b:List TokD}:encTks a=encTks b↔a=b:=⟨encTks_inj,fun h=>h ▸ rfl⟩
theorem ex_Tk {p:TokD→Prop}:(∃ x,p x)↔ ∃ k n v ps,p ⟨k,n,v,ps⟩:=⟨fun ⟨⟨k,n,v,ps⟩,h⟩=>⟨k,n,v,ps,h⟩,fun ⟨k,n,v,ps,h⟩=>⟨_,h⟩⟩
/-- Small tokens. -/
def smTk (t:TokD):Prop:=t.name.length≤10∧t.value.length≤72000∧t.pairs.length≤60∧ ∀ p ∈ t.pairs,p.1.length≤10∧p.2.length≤72000
def smTks (l:List TokD):Prop:=l.length≤1000∧ ∀ t ∈ l,smTk t
theorem smTk_of {N:Nat} {t:TokD} (h:bdT N t) (hN:N≤72000):smTk t:=bdT_mono h hN
theorem sm_tok {s:Bs} {l:List TokD} (h:tokM s=some l):smTks l:=by
 obtain ⟨h1,h2⟩:=tok_bd h
 exact ⟨by omega,fun t ht=>smTk_of (h2 t ht) (by omega)⟩
theorem sm_clean {s:Bs} {l:List TokD} (h:tokM s=some l):smTks (cleanMk l):=by
 obtain ⟨h1,h2⟩:=tok_bd h
 obtain ⟨h3,h4⟩:=clean_bd h1 h2
 exact ⟨by omega,fun t ht=>smTk_of (h4 t ht) (by omega)⟩
theorem smTk_at {l:List TokD} (h:smTks l) {k:Nat} {t:TokD} (hx:l[k]?=some t):smTk t:=h.2 t (List.mem_of_getElem? hx)
theorem drop_tk {α:Type} {l:List α} {k:Nat} {x:α} (h:l[k]?=some x):l.drop k=x::l.drop (k+1):=by
 obtain ⟨hk,rfl⟩:=List.getElem?_eq_some_iff.1 h
 exact List.drop_eq_getElem_cons hk
def depF:List Bs→Nat→List TokD→Nat×Bool
 | st,m,[]=>(m,st.isEmpty)
 | [],m,t::r=>if t.kind=3 then (0,false) else if t.kind=2∧voidN t.name=false then depF [t.name] (max m 1) r else depF [] m r
 | n::st,m,t::r=>if t.kind=3 then (if n=t.name then depF st m r else (0,false)) else if t.kind=2∧voidN t.name=false then depF (t.name::n::st) (max m (st.length+2)) r else depF (n::st) m r
theorem dep_nil (st:List Bs) (m:Nat):depF st m []=(m,st.isEmpty):=by cases st<;>rfl
theorem dep_3 {st:List Bs} {m:Nat} {t:TokD} {r:List TokD} (h:t.kind=3):depF st m (t::r)=match st with|[]=>(0,false)|n::q=>if n=t.name then depF q m r else (0,false):=by
 cases st<;>simp [depF,h]
theorem dep_2 {st:List Bs} {m:Nat} {t:TokD} {r:List TokD} (h:t.kind=2) (hv:voidN t.name=false):depF st m (t::r)=depF (t.name::st) (max m (st.length+1)) r:=by
 cases st<;>simp [depF,h,hv]
theorem dep_o {st:List Bs} {m:Nat} {t:TokD} {r:List TokD} (h:t.kind≠3) (h2: ¬ (t.kind=2∧voidN t.name=false)):depF st m (t::r)=depF st m r:=by
 cases st<;>simp only [depF,if_neg h,if_neg h2]
theorem dep_bal: ∀ (l:List TokD) (st:List Bs) (m:Nat),(depF st m l).2=balF st l
 | [],st,m=>by rw [dep_nil];cases st<;>rfl
 | t::r,st,m=>by
   by_cases h3:t.kind=3
   · rw [dep_3 h3,bal_3 h3]
     cases st with
     | nil=>rfl
     | cons n q =>
       dsimp only
       split
       · rename_i h;rw [dep_bal r q m];simp [h]
       · rename_i h;simp [h]
   · by_cases h2:t.kind=2∧voidN t.name=false
     · rw [dep_2 h2.1 h2.2,bal_2 h2.1 h2.2,dep_bal]
     · rw [dep_o h3 h2,bal_o h3 h2,dep_bal]
theorem strs_rev (n:Bs) (st:List Bs):strs st.reverse++[[.str n]]=strs (n::st).reverse:=by simp [strs]
theorem strs_top (n:Bs) (st:List Bs):(strs (n::st).reverse)[st.length]?=some [.str n]:=by
 simp [strs]
theorem strs_pop (n:Bs) (st:List Bs):(strs (n::st).reverse).take st.length=strs st.reverse:=by
 simp [strs]
end Go.Proofs.Ytnbjogilidfkdaa

/- Reading tokens: what holds behind some bytes. Plain. -/
namespace Go.Proofs.Ytnbjogilidfkdaa
set_option maxRecDepth 100000
set_option linter.unusedVariables false
set_option linter.unusedSimpArgs false
open Go.RowKit
/-- What holds behind k bytes of s. -/
structure TkAt (s:Bs) (k:Nat) (x:TkI):Prop where
 ok:TkOk x
 bd:BdI k x
 lo:x.out.length≤k
 lp:x.ps.length≤k
 eq:(tkFold tkI0 s).bind tkFin=(tkFold x (s.drop k)).bind tkFin
theorem TkAt.zero (s:Bs):TkAt s 0 tkI0:=⟨tkI0_ok,⟨stV_st0,Nat.le_refl _,(fun t h=>by cases h),(fun t h=>by cases h)⟩,Nat.le_refl _,Nat.le_refl _,rfl⟩
theorem tkStep_lens {x y:TkI} {b:UInt8} (e:tkStep x b=some y):y.out.length≤x.out.length+1∧y.ps.length≤x.ps.length+1:=by
 unfold tkStep at e
 split at e
 · cases e
 split at e
 · split at e
   · cases e
   · cases e
     simp
 · cases e
   refine ⟨?_,?_⟩
   · unfold rawI
     (repeat' split)<;>simp
   · unfold prsI
     (repeat' split)<;>simp [lastP_len]
theorem drop_get {s:Bs} {k:Nat} (h:k<s.length):s.drop k=s.getD k 0::s.drop (k+1):=by
 rw [List.drop_eq_getElem_cons h]
 simp [List.getD_eq_getElem?_getD,h]
theorem TkAt.step {s:Bs} {k:Nat} {x y:TkI} (h:TkAt s k x) (hk:k<s.length) (e:tkStep x (s.getD k 0)=some y):TkAt s (k+1) y:=by
 obtain ⟨h1,h2⟩:=tkStep_lens e
 refine ⟨tk_ok h.ok e,bd_step h.bd e,by have:=h.lo;omega,by have:=h.lp;omega,?_⟩
 rw [h.eq,drop_get hk,tkFold_cons,e]
 rfl
theorem TkAt.stop {s:Bs} {k:Nat} {x:TkI} (h:TkAt s k x) (hk:k<s.length) (ht:textB s=true) (e:tkStep x (s.getD k 0)=none):tokM s=none:=by
 unfold tokM
 rw [if_pos ht,h.eq,drop_get hk,tkFold_cons,e]
 rfl
theorem TkAt.fin {s:Bs} {k:Nat} {x:TkI} (h:TkAt s k x) (hk:s.length≤k) (ht:textB s=true):tokM s=tkFin x:=by
 unfold tokM
 rw [if_pos ht,h.eq,List.drop_eq_nil_of_le hk]
 rfl
theorem tokM_bad {s:Bs} (h:textB s=false):tokM s=none:=by
 unfold tokM
 rw [if_neg (by rw [h];decide)]
/-- The last attribute is written over. -/
theorem encPrs_setl (l:List (Bs×Bs)) (p q:Bs×Bs):(encPrs (l++[p])).set l.length [.str q.1,.str q.2]=encPrs (l++[q]):=by
 rw [encPrs_app,encPrs_app,List.set_append_right _ _ (by rw [encPrs_len];exact Nat.le_refl _),encPrs_len,Nat.sub_self]
 rfl
theorem encPrs_getl (l:List (Bs×Bs)) (p:Bs×Bs):(encPrs (l++[p]))[l.length]?=some [.str p.1,.str p.2]:=by
 simp [encPrs,encPr]
/-- Some attributes are unescaped. -/
def psJ (ps:List (Bs×Bs)) (j:Nat):List (Bs×Bs):=unPs (ps.take j)++ps.drop j
theorem psJ_zero (ps:List (Bs×Bs)):psJ ps 0=ps:=by simp [psJ,unPs]
theorem psJ_all (ps:List (Bs×Bs)):psJ ps ps.length=unPs ps:=by simp [psJ]
theorem psJ_len (ps:List (Bs×Bs)) (j:Nat):(psJ ps j).length=ps.length:=by simp [psJ,unPs];omega
theorem psJ_get {ps:List (Bs×Bs)} {j:Nat} {p:Bs×Bs} (h:ps[j]?=some p):(encPrs (psJ ps j))[j]?=some [.str p.1,.str p.2]:=by
 obtain ⟨hj,rfl⟩:=List.getElem?_eq_some_iff.1 h
 rw [encPrs_get,psJ,List.getElem?_append_right (by simp [unPs];omega)]
 simp [unPs,encPr,Nat.min_eq_left (Nat.le_of_lt hj),hj]
theorem psJ_set {ps:List (Bs×Bs)} {j:Nat} {p:Bs×Bs} (h:ps[j]?=some p):(encPrs (psJ ps j)).set j [.str p.1,.str (unT p.2)]=encPrs (psJ ps (j+1)):=by
 obtain ⟨hj,rfl⟩:=List.getElem?_eq_some_iff.1 h
 have hl:(unPs (ps.take j)).length=j:=by simp [unPs];omega
 unfold psJ
 rw [encPrs_app,List.set_append_right _ _ (by rw [encPrs_len,hl];exact Nat.le_refl _),encPrs_len,hl,Nat.sub_self,List.drop_eq_getElem_cons hj,show ps.take (j+1)=ps.take j++[ps[j]] from (List.take_append_getElem hj).symm,unPs_append,encPrs_app,encPrs_app,List.append_assoc]
 rfl
end Go.Proofs.Ytnbjogilidfkdaa

/- The reference's reading of tokens, by bytes. Plain. -/
namespace Go.Proofs.Ytnbjogilidfkdaa
set_option maxRecDepth 100000
set_option linter.unusedVariables false
set_option linter.unusedSimpArgs false
open Go.RowKit
def ts0:TkS:=⟨st0,[],[],[]⟩
/-- What the reference holds behind k bytes. -/
structure TsAt (s:Bs) (k:Nat) (y:TkS):Prop where
 v:stV y.s=true
 buf:y.buf.length≤k
 lo:y.out.length≤60
 lp:y.ps.length≤60
 less:y.s.mode=14→y.buf≠[]
 eq:tsFold ts0 s=tsFold y (s.drop k)
theorem TsAt.zero (s:Bs):TsAt s 0 ts0:=⟨stV_st0,Nat.le_refl _,Nat.zero_le _,Nat.zero_le _,(fun h=>by simp [ts0,st0] at h),rfl⟩
theorem ts_buf (y:TkS) (b:UInt8):(tsStep y b).buf.length≤y.buf.length+1:=by
 unfold tsStep
 (repeat' split)<;>simp
theorem ts_less {y:TkS} {b:UInt8} (hv:stV y.s=true) (h:(tsStep y b).s.mode=14):(tsStep y b).buf≠[]:=by
 rw [tsStep_s] at h
 have hs:=step_modes hv b
 have h7:tsStep y b=⟨step y.s b,y.buf++[b],y.ps,y.out⟩:=by
  unfold tsStep
  rw [if_neg (by omega),if_neg (by omega),if_neg (by omega),if_neg (by omega),if_neg (by omega),if_neg (by omega),if_pos (by omega)]
 rw [h7]
 simp
theorem TsAt.step {s:Bs} {k:Nat} {y z:TkS} (h:TsAt s k y) (hk:k<s.length) (e:tsStep y (s.getD k 0)=z) (h1:z.out.length≤60) (h2:z.ps.length≤60):TsAt s (k+1) z:=by
 subst e
 have hb: ¬ bigS (tsStep y (s.getD k 0))=true:=by
  unfold bigS
  simp only [Bool.or_eq_true,decide_eq_true_eq]
  omega
 refine ⟨?_,?_,h1,h2,ts_less h.v,?_⟩
 · rw [tsStep_s];exact stV_step _ _
 · have:=ts_buf y (s.getD k 0)
   have:=h.buf
   omega
 · rw [h.eq,drop_get hk,tsFold,if_neg hb]
theorem TsAt.stop {s:Bs} {k:Nat} {y z:TkS} (h:TsAt s k y) (hk:k<s.length) (e:tsStep y (s.getD k 0)=z) (h1:60<z.out.length∨60<z.ps.length):tokM s=none:=by
 subst e
 have hb:bigS (tsStep y (s.getD k 0))=true:=by
  unfold bigS
  simp only [Bool.or_eq_true,decide_eq_true_eq]
  exact h1
 rw [← tokM_eq]
 have e:tsFold ts0 s=none:=by rw [h.eq,drop_get hk,tsFold,if_pos hb]
 show (tsFold ts0 s).bind _=none
 rw [e];rfl
theorem TsAt.fin {s:Bs} {k:Nat} {y:TkS} (h:TsAt s k y) (hk:s.length≤k):tokM s=if textB s=true then tsFin y else none:=by
 rw [← tokM_eq]
 show (tsFold ts0 s).bind _=_
 rw [h.eq,List.drop_eq_nil_of_le hk,tsFold];rfl
def closeP (m:Int) (ta v:Bs) (ps:List (Bs×Bs)):List (Bs×Bs):=if 4≤m∧m≤8 then ps++[(ta,unT v)] else ps
section
variable {m n:Int} {tg ta ng na buf:Bs} {ts ns:Bool} {ps:List (Bs×Bs)} {out:List TokD} {b:UInt8}
theorem ts_1 (hn:step ⟨m,tg,ta,ts⟩ b=⟨n,ng,na,ns⟩) (h:m=0) (h':n=1):tsStep ⟨⟨m,tg,ta,ts⟩,buf,ps,out⟩ b=⟨⟨n,ng,na,ns⟩,[],[],putTk out (tkText (unT buf))⟩:=by
 unfold tsStep
 simp only [hn]
 rw [if_pos ⟨h,h'⟩]
theorem ts_2 (hn:step ⟨m,tg,ta,ts⟩ b=⟨n,ng,na,ns⟩) (h:m=10) (h':n=0):tsStep ⟨⟨m,tg,ta,ts⟩,buf,ps,out⟩ b=⟨⟨n,ng,na,ns⟩,[],ps,out++[tkCom buf]⟩:=by
 unfold tsStep
 simp only [hn]
 rw [if_neg (by omega),if_pos ⟨h,h'⟩]
theorem ts_3 (hn:step ⟨m,tg,ta,ts⟩ b=⟨n,ng,na,ns⟩) (h:m=9) (h':n=0):tsStep ⟨⟨m,tg,ta,ts⟩,buf,ps,out⟩ b=⟨⟨n,ng,na,ns⟩,[],ps,out++[tkEnd tg]⟩:=by
 unfold tsStep
 simp only [hn]
 rw [if_neg (by omega),if_neg (by omega),if_pos ⟨h,h'⟩]
theorem ts_4 (hn:step ⟨m,tg,ta,ts⟩ b=⟨n,ng,na,ns⟩) (h:2≤m∧m≤8) (h':n=0∨n=11):tsStep ⟨⟨m,tg,ta,ts⟩,buf,ps,out⟩ b=⟨⟨n,ng,na,ns⟩,[],(if 4≤m∧m≤8 then ps++[(ta,unT buf)] else ps),out++[tkOpen tg (if 4≤m∧m≤8 then ps++[(ta,unT buf)] else ps)]⟩:=by
 unfold tsStep
 simp only [hn]
 rw [if_neg (by omega),if_neg (by omega),if_neg (by omega),if_pos ⟨h,h'⟩]
 rfl
theorem ts_5 (hn:step ⟨m,tg,ta,ts⟩ b=⟨n,ng,na,ns⟩) (h:2≤m∧m≤8) (h':n=3):tsStep ⟨⟨m,tg,ta,ts⟩,buf,ps,out⟩ b=⟨⟨n,ng,na,ns⟩,[],(if 4≤m∧m≤8 then ps++[(ta,unT buf)] else ps),out⟩:=by
 unfold tsStep
 simp only [hn]
 rw [if_neg (by omega),if_neg (by omega),if_neg (by omega),if_neg (by omega),if_pos ⟨h,h'⟩]
 rfl
theorem ts_6 (hn:step ⟨m,tg,ta,ts⟩ b=⟨n,ng,na,ns⟩) (h:m=14) (h':n=9):tsStep ⟨⟨m,tg,ta,ts⟩,buf,ps,out⟩ b=⟨⟨n,ng,na,ns⟩,[],ps,putTk out (tkScr buf.dropLast)⟩:=by
 unfold tsStep
 simp only [hn]
 rw [if_neg (by omega),if_neg (by omega),if_neg (by omega),if_neg (by omega),if_neg (by omega),if_pos ⟨h,h'⟩]
theorem ts_4' (hn:step ⟨m,tg,ta,ts⟩ b=⟨n,ng,na,ns⟩) (h:2≤m∧m≤8) (h':n=0∨n=11):tsStep ⟨⟨m,tg,ta,ts⟩,buf,ps,out⟩ b=⟨⟨n,ng,na,ns⟩,[],closeP m ta buf ps,out++[tkOpen tg (closeP m ta buf ps)]⟩:=ts_4 hn h h'
theorem ts_5' (hn:step ⟨m,tg,ta,ts⟩ b=⟨n,ng,na,ns⟩) (h:2≤m∧m≤8) (h':n=3):tsStep ⟨⟨m,tg,ta,ts⟩,buf,ps,out⟩ b=⟨⟨n,ng,na,ns⟩,[],closeP m ta buf ps,out⟩:=ts_5 hn h h'
/-- None of the first ways. -/
def noWay (m n:Int):Prop:= ¬ (m=0∧n=1)∧ ¬ (m=10∧n=0)∧ ¬ (m=9∧n=0)∧ ¬ ((2≤m∧m≤8)∧(n=0∨n=11))∧ ¬ ((2≤m∧m≤8)∧n=3)∧ ¬ (m=14∧n=9)
theorem ts_7 (hn:step ⟨m,tg,ta,ts⟩ b=⟨n,ng,na,ns⟩) (h:noWay m n) (h':m=0∨m=10∨(11≤m∧m≤14)∨ns=true):tsStep ⟨⟨m,tg,ta,ts⟩,buf,ps,out⟩ b=⟨⟨n,ng,na,ns⟩,buf++[b],ps,out⟩:=by
 obtain ⟨h1,h2,h3,h4,h5,h6⟩:=h
 unfold tsStep
 simp only [hn]
 rw [if_neg h1,if_neg h2,if_neg h3,if_neg h4,if_neg h5,if_neg h6,if_pos h']
theorem ts_8 (hn:step ⟨m,tg,ta,ts⟩ b=⟨n,ng,na,ns⟩) (h:noWay m n) (h': ¬ (m=0∨m=10∨(11≤m∧m≤14)∨ns=true)):tsStep ⟨⟨m,tg,ta,ts⟩,buf,ps,out⟩ b=⟨⟨n,ng,na,ns⟩,buf,ps,out⟩:=by
 obtain ⟨h1,h2,h3,h4,h5,h6⟩:=h
 unfold tsStep
 simp only [hn]
 rw [if_neg h1,if_neg h2,if_neg h3,if_neg h4,if_neg h5,if_neg h6,if_neg h']
end
end Go.Proofs.Ytnbjogilidfkdaa
