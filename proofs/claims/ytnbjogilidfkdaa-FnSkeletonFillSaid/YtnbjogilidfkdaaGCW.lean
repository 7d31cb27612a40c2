/- The head words of the program, read once: what a large seat's cells ask. -/
import Derived.Test.YtnbjogilidfkdaaGGW
import Derived.ProofKit

namespace Go.Proofs.Ytnbjogilidfkdaa
set_option maxRecDepth 100000
set_option linter.unusedVariables false
set_option linter.unusedSimpArgs false
theorem initIs:Try.prog.initOrder=String.ofList ['h','a','r','n','e','s','s',' ','9','b','d','0','0','5','6','9','7','b','1','a','8','4','6','0','0','b','8','f','2','3','d','1','c','3','b','4','0','8','8','b','7','7','7','9','b','6','a','b','7','5','7','8','9','f','c','e','e','4','7','8','9','d','d','1','5','7','b','d','3','1','e','0',' ','c','u','t',' ','a','t',' ','l','o','o','p','.','e','x','a','m','p','l','e','/','t','e','m','p','l','a','t','e','e','s','c','a','p','e','r','/','l','a','w','s','.','F','n','C','l','e','a','n','T','o','k','e','n','s',' ','l','o','o','p','.','e','x','a','m','p','l','e','/','t','e','m','p','l','a','t','e','e','s','c','a','p','e','r','/','l','a','w','s','.','F','n','C','l','e','a','n','T','e','x','t',' ','l','o','o','p','.','e','x','a','m','p','l','e','/','t','e','m','p','l','a','t','e','e','s','c','a','p','e','r','/','l','a','w','s','.','F','n','E','x','a','c','t','M','a','r','k','u','p','S','a','f','e',' ','l','o','o','p','.','e','x','a','m','p','l','e','/','t','e','m','p','l','a','t','e','e','s','c','a','p','e','r','/','l','a','w','s','.','F','n','H','o','l','e','V','a','l','u','e',' ','l','o','o','p','.','e','x','a','m','p','l','e','/','t','e','m','p','l','a','t','e','e','s','c','a','p','e','r','/','l','a','w','s','.','F','n','A','d','d','r','e','s','s','H','o','l','e',' ','l','o','o','p','.','e','x','a','m','p','l','e','/','t','e','m','p','l','a','t','e','e','s','c','a','p','e','r','/','l','a','w','s','.','F','n','M','a','r','k','u','p','S','a','f','e',' ','l','o','o','p','.','e','x','a','m','p','l','e','/','t','e','m','p','l','a','t','e','e','s','c','a','p','e','r','/','l','a','w','s','.','F','n','E','x','a','c','t','C','l','e','a','n','M','a','r','k','u','p',' ','l','o','o','p','.','e','x','a','m','p','l','e','/','t','e','m','p','l','a','t','e','e','s','c','a','p','e','r','/','l','a','w','s','.','F','n','S','k','e','l','e','t','o','n','F','i','l','l',' ','l','o','o','p','.','e','x','a','m','p','l','e','/','t','e','m','p','l','a','t','e','e','s','c','a','p','e','r','/','l','a','w','s','.','F','n','C','l','e','a','n','M','a','r','k','u','p']:=by kernel_rfl
theorem ws_app (w r:List Char) (h:w.all (fun c=>c != ' ')=true):wordsSigns (w++' '::r)=w::wordsSigns r:=by
 induction w with
 | nil=>rfl
 | cons c w ih =>
   simp only [List.all_cons,Bool.and_eq_true] at h
   have hc:c≠' ':=by simpa using h.1
   rw [List.cons_append,wordsSigns,ih h.2]
   exact hc
theorem bm (s:List Char) (h:isSumSigns s=true) (ws:List (List Char)):behindMainWord (['h','a','r','n','e','s','s']::s::ws)=ws:=by
 unfold behindMainWord
 dsimp only
 rw [if_pos]
 rw [h,show ((['h','a','r','n','e','s','s']:List Char) == "harness".toList)=true by decide +kernel]
 rfl
theorem headWords: ∃ ws,behindMainWord (wordsSigns Try.prog.initOrder.toList)=['c','u','t']::ws:=by
 rw [initIs,String.toList_ofList]
 refine ⟨wordsSigns ['a','t',' ','l','o','o','p','.','e','x','a','m','p','l','e','/','t','e','m','p','l','a','t','e','e','s','c','a','p','e','r','/','l','a','w','s','.','F','n','C','l','e','a','n','T','o','k','e','n','s',' ','l','o','o','p','.','e','x','a','m','p','l','e','/','t','e','m','p','l','a','t','e','e','s','c','a','p','e','r','/','l','a','w','s','.','F','n','C','l','e','a','n','T','e','x','t',' ','l','o','o','p','.','e','x','a','m','p','l','e','/','t','e','m','p','l','a','t','e','e','s','c','a','p','e','r','/','l','a','w','s','.','F','n','E','x','a','c','t','M','a','r','k','u','p','S','a','f','e',' ','l','o','o','p','.','e','x','a','m','p','l','e','/','t','e','m','p','l','a','t','e','e','s','c','a','p','e','r','/','l','a','w','s','.','F','n','H','o','l','e','V','a','l','u','e',' ','l','o','o','p','.','e','x','a','m','p','l','e','/','t','e','m','p','l','a','t','e','e','s','c','a','p','e','r','/','l','a','w','s','.','F','n','A','d','d','r','e','s','s','H','o','l','e',' ','l','o','o','p','.','e','x','a','m','p','l','e','/','t','e','m','p','l','a','t','e','e','s','c','a','p','e','r','/','l','a','w','s','.','F','n','M','a','r','k','u','p','S','a','f','e',' ','l','o','o','p','.','e','x','a','m','p','l','e','/','t','e','m','p','l','a','t','e','e','s','c','a','p','e','r','/','l','a','w','s','.','F','n','E','x','a','c','t','C','l','e','a','n','M','a','r','k','u','p',' ','l','o','o','p','.','e','x','a','m','p','l','e','/','t','e','m','p','l','a','t','e','e','s','c','a','p','e','r','/','l','a','w','s','.','F','n','S','k','e','l','e','t','o','n','F','i','l','l',' ','l','o','o','p','.','e','x','a','m','p','l','e','/','t','e','m','p','l','a','t','e','e','s','c','a','p','e','r','/','l','a','w','s','.','F','n','C','l','e','a','n','M','a','r','k','u','p'],?_⟩
 have e:(['h','a','r','n','e','s','s',' ','9','b','d','0','0','5','6','9','7','b','1','a','8','4','6','0','0','b','8','f','2','3','d','1','c','3','b','4','0','8','8','b','7','7','7','9','b','6','a','b','7','5','7','8','9','f','c','e','e','4','7','8','9','d','d','1','5','7','b','d','3','1','e','0',' ','c','u','t',' ','a','t',' ','l','o','o','p','.','e','x','a','m','p','l','e','/','t','e','m','p','l','a','t','e','e','s','c','a','p','e','r','/','l','a','w','s','.','F','n','C','l','e','a','n','T','o','k','e','n','s',' ','l','o','o','p','.','e','x','a','m','p','l','e','/','t','e','m','p','l','a','t','e','e','s','c','a','p','e','r','/','l','a','w','s','.','F','n','C','l','e','a','n','T','e','x','t',' ','l','o','o','p','.','e','x','a','m','p','l','e','/','t','e','m','p','l','a','t','e','e','s','c','a','p','e','r','/','l','a','w','s','.','F','n','E','x','a','c','t','M','a','r','k','u','p','S','a','f','e',' ','l','o','o','p','.','e','x','a','m','p','l','e','/','t','e','m','p','l','a','t','e','e','s','c','a','p','e','r','/','l','a','w','s','.','F','n','H','o','l','e','V','a','l','u','e',' ','l','o','o','p','.','e','x','a','m','p','l','e','/','t','e','m','p','l','a','t','e','e','s','c','a','p','e','r','/','l','a','w','s','.','F','n','A','d','d','r','e','s','s','H','o','l','e',' ','l','o','o','p','.','e','x','a','m','p','l','e','/','t','e','m','p','l','a','t','e','e','s','c','a','p','e','r','/','l','a','w','s','.','F','n','M','a','r','k','u','p','S','a','f','e',' ','l','o','o','p','.','e','x','a','m','p','l','e','/','t','e','m','p','l','a','t','e','e','s','c','a','p','e','r','/','l','a','w','s','.','F','n','E','x','a','c','t','C','l','e','a','n','M','a','r','k','u','p',' ','l','o','o','p','.','e','x','a','m','p','l','e','/','t','e','m','p','l','a','t','e','e','s','c','a','p','e','r','/','l','a','w','s','.','F','n','S','k','e','l','e','t','o','n','F','i','l','l',' ','l','o','o','p','.','e','x','a','m','p','l','e','/','t','e','m','p','l','a','t','e','e','s','c','a','p','e','r','/','l','a','w','s','.','F','n','C','l','e','a','n','M','a','r','k','u','p']:List Char)=['h','a','r','n','e','s','s']++' '::(['9','b','d','0','0','5','6','9','7','b','1','a','8','4','6','0','0','b','8','f','2','3','d','1','c','3','b','4','0','8','8','b','7','7','7','9','b','6','a','b','7','5','7','8','9','f','c','e','e','4','7','8','9','d','d','1','5','7','b','d','3','1','e','0']++' '::(['c','u','t']++' '::['a','t',' ','l','o','o','p','.','e','x','a','m','p','l','e','/','t','e','m','p','l','a','t','e','e','s','c','a','p','e','r','/','l','a','w','s','.','F','n','C','l','e','a','n','T','o','k','e','n','s',' ','l','o','o','p','.','e','x','a','m','p','l','e','/','t','e','m','p','l','a','t','e','e','s','c','a','p','e','r','/','l','a','w','s','.','F','n','C','l','e','a','n','T','e','x','t',' ','l','o','o','p','.','e','x','a','m','p','l','e','/','t','e','m','p','l','a','t','e','e','s','c','a','p','e','r','/','l','a','w','s','.','F','n','E','x','a','c','t','M','a','r','k','u','p','S','a','f','e',' ','l','o','o','p','.','e','x','a','m','p','l','e','/','t','e','m','p','l','a','t','e','e','s','c','a','p','e','r','/','l','a','w','s','.','F','n','H','o','l','e','V','a','l','u','e',' ','l','o','o','p','.','e','x','a','m','p','l','e','/','t','e','m','p','l','a','t','e','e','s','c','a','p','e','r','/','l','a','w','s','.','F','n','A','d','d','r','e','s','s','H','o','l','e',' ','l','o','o','p','.','e','x','a','m','p','l','e','/','t','e','m','p','l','a','t','e','e','s','c','a','p','e','r','/','l','a','w','s','.','F','n','M','a','r','k','u','p','S','a','f','e',' ','l','o','o','p','.','e','x','a','m','p','l','e','/','t','e','m','p','l','a','t','e','e','s','c','a','p','e','r','/','l','a','w','s','.','F','n','E','x','a','c','t','C','l','e','a','n','M','a','r','k','u','p',' ','l','o','o','p','.','e','x','a','m','p','l','e','/','t','e','m','p','l','a','t','e','e','s','c','a','p','e','r','/','l','a','w','s','.','F','n','S','k','e','l','e','t','o','n','F','i','l','l',' ','l','o','o','p','.','e','x','a','m','p','l','e','/','t','e','m','p','l','a','t','e','e','s','c','a','p','e','r','/','l','a','w','s','.','F','n','C','l','e','a','n','M','a','r','k','u','p'])):=rfl
 rw [e,ws_app _ _ (by decide +kernel),ws_app _ _ (by decide +kernel),ws_app _ _ (by decide +kernel)]
 exact bm _ (by decide +kernel) _
theorem strip_cut (ws:List (List Char)):stripLifts liftWords (['c','u','t']::ws)=([],['c','u','t']::ws):=by kernel_rfl
section
variable {P:Program} {ws:List (List Char)} (h:behindMainWord (wordsSigns P.initOrder.toList)=['c','u','t']::ws)
include h
theorem make_cut:P.make=some .cut:=by
 unfold Program.make
 rw [h]
 dsimp only
 rw [if_neg (by decide +kernel),if_pos (by rw [show ((['c','u','t']:List Char) == "cut".toList)=true by decide +kernel];rfl)]
theorem mayEnter_cut (h1:P.laysLater=false) (h2:P.bearsReflect=false) (h3:P.doorFits []=true):P.mayEnter=true:=by
 unfold Program.mayEnter
 rw [h]
 dsimp only
 rw [strip_cut]
 dsimp only
 rw [h1,h2,h3,show (List.head? ((['c','u','t']:List Char)::ws) == some "cut".toList)=true by simp only [List.head?_cons];decide +kernel]
 simp
theorem lifts_cut:P.liftsFinal=false:=by
 unfold Program.liftsFinal Program.headLifts
 rw [h]
 dsimp only
 rw [strip_cut]
 dsimp only
 rw [show (List.head? ((['c','u','t']:List Char)::ws) == some "carried".toList)=false by simp only [List.head?_cons];decide +kernel]
 split<;>rfl
end
theorem makeIs:Try.prog.make=some .cut:=by obtain ⟨ws,h⟩:=headWords;exact make_cut h
theorem mayEnterIs:Try.prog.mayEnter=true:=by obtain ⟨ws,h⟩:=headWords;exact mayEnter_cut h (by kernel_rfl) (by kernel_rfl) (by kernel_rfl)
theorem liftsIs:Try.prog.liftsFinal=false:=by obtain ⟨ws,h⟩:=headWords;exact lifts_cut h
end Go.Proofs.Ytnbjogilidfkdaa
