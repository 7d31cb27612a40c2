/- The head words of the program, read once: what a large seat's cells ask. -/
import Derived.Test.YtnbjogilidfkdaaGreatVGW
import Derived.ProofKit

namespace Go.Proofs.YtnbjogilidfkdaaGreat
set_option maxRecDepth 100000
set_option linter.unusedVariables false
set_option linter.unusedSimpArgs false
theorem initIs:Tryz.prog.initOrder=String.ofList ['h','a','r','n','e','s','s',' ','3','1','0','7','5','0','b','a','b','0','a','1','7','0','3','2','9','3','8','d','5','4','3','c','6','1','c','3','b','4','5','e','c','7','7','0','c','8','0','6','b','b','b','0','5','3','2','f','c','9','8','3','2','d','0','3','7','2','f','9','b','4','a','3',' ','c','u','t',' ','a','t',' ','l','o','o','p','.','e','x','a','m','p','l','e','/','t','e','m','p','l','a','t','e','e','s','c','a','p','e','r','/','l','a','w','s','.','F','n','L','o','n','g','F','i','l','l',' ','l','o','o','p','.','e','x','a','m','p','l','e','/','t','e','m','p','l','a','t','e','e','s','c','a','p','e','r','/','l','a','w','s','.','F','n','E','x','a','c','t','F','i','l','l','M','i','x','e','d',' ','l','o','o','p','.','e','x','a','m','p','l','e','/','t','e','m','p','l','a','t','e','e','s','c','a','p','e','r','/','l','a','w','s','.','F','n','F','i','l','l','M','i','x','e','d']:=by kernel_rfl
theorem ws_app (w r:List Char) (h:w.all (fun c=>c != ' ')=true):wordsSigns (w++' '::r)=w::wordsSigns r:=by
 induction w with
 | nil=>rfl
 | cons c w ih =>
   simp only [List.all_cons,Bool.and_eq_true] at h
   have hc:c≠' ':=by simpa using h.1
   rw [List.cons_append,wordsSigns,ih h.2]
   exact hc
theorem bm (s:List Char) (h:isSumSigns s=true) (ws:List (List Char)):behindMainWord (['h','a','r','n','e','s','s']::s::ws)=ws:=by
 unfold behindMainWord
 dsimp only
 rw [if_pos]
 rw [h,show ((['h','a','r','n','e','s','s']:List Char) == "harness".toList)=true by decide +kernel]
 rfl
theorem headWords: ∃ ws,behindMainWord (wordsSigns Tryz.prog.initOrder.toList)=['c','u','t']::ws:=by
 rw [initIs,String.toList_ofList]
 refine ⟨wordsSigns ['a','t',' ','l','o','o','p','.','e','x','a','m','p','l','e','/','t','e','m','p','l','a','t','e','e','s','c','a','p','e','r','/','l','a','w','s','.','F','n','L','o','n','g','F','i','l','l',' ','l','o','o','p','.','e','x','a','m','p','l','e','/','t','e','m','p','l','a','t','e','e','s','c','a','p','e','r','/','l','a','w','s','.','F','n','E','x','a','c','t','F','i','l','l','M','i','x','e','d',' ','l','o','o','p','.','e','x','a','m','p','l','e','/','t','e','m','p','l','a','t','e','e','s','c','a','p','e','r','/','l','a','w','s','.','F','n','F','i','l','l','M','i','x','e','d'],?_⟩
 have e:(['h','a','r','n','e','s','s',' ','3','1','0','7','5','0','b','a','b','0','a','1','7','0','3','2','9','3','8','d','5','4','3','c','6','1','c','3','b','4','5','e','c','7','7','0','c','8','0','6','b','b','b','0','5','3','2','f','c','9','8','3','2','d','0','3','7','2','f','9','b','4','a','3',' ','c','u','t',' ','a','t',' ','l','o','o','p','.','e','x','a','m','p','l','e','/','t','e','m','p','l','a','t','e','e','s','c','a','p','e','r','/','l','a','w','s','.','F','n','L','o','n','g','F','i','l','l',' ','l','o','o','p','.','e','x','a','m','p','l','e','/','t','e','m','p','l','a','t','e','e','s','c','a','p','e','r','/','l','a','w','s','.','F','n','E','x','a','c','t','F','i','l','l','M','i','x','e','d',' ','l','o','o','p','.','e','x','a','m','p','l','e','/','t','e','m','p','l','a','t','e','e','s','c','a','p','e','r','/','l','a','w','s','.','F','n','F','i','l','l','M','i','x','e','d']:List Char)=['h','a','r','n','e','s','s']++' '::(['3','1','0','7','5','0','b','a','b','0','a','1','7','0','3','2','9','3','8','d','5','4','3','c','6','1','c','3','b','4','5','e','c','7','7','0','c','8','0','6','b','b','b','0','5','3','2','f','c','9','8','3','2','d','0','3','7','2','f','9','b','4','a','3']++' '::(['c','u','t']++' '::['a','t',' ','l','o','o','p','.','e','x','a','m','p','l','e','/','t','e','m','p','l','a','t','e','e','s','c','a','p','e','r','/','l','a','w','s','.','F','n','L','o','n','g','F','i','l','l',' ','l','o','o','p','.','e','x','a','m','p','l','e','/','t','e','m','p','l','a','t','e','e','s','c','a','p','e','r','/','l','a','w','s','.','F','n','E','x','a','c','t','F','i','l','l','M','i','x','e','d',' ','l','o','o','p','.','e','x','a','m','p','l','e','/','t','e','m','p','l','a','t','e','e','s','c','a','p','e','r','/','l','a','w','s','.','F','n','F','i','l','l','M','i','x','e','d'])):=rfl
 rw [e,ws_app _ _ (by decide +kernel),ws_app _ _ (by decide +kernel),ws_app _ _ (by decide +kernel)]
 exact bm _ (by decide +kernel) _
theorem strip_cut (ws:List (List Char)):stripLifts liftWords (['c','u','t']::ws)=([],['c','u','t']::ws):=by kernel_rfl
section
variable {P:Program} {ws:List (List Char)} (h:behindMainWord (wordsSigns P.initOrder.toList)=['c','u','t']::ws)
include h
theorem make_cut:P.make=some .cut:=by
 unfold Program.make
 rw [h]
 dsimp only
 rw [if_neg (by decide +kernel),if_pos (by rw [show ((['c','u','t']:List Char) == "cut".toList)=true by decide +kernel];rfl)]
theorem mayEnter_cut (h1:P.laysLater=false) (h2:P.bearsReflect=false) (h3:P.doorFits []=true):P.mayEnter=true:=by
 unfold Program.mayEnter
 rw [h]
 dsimp only
 rw [strip_cut]
 dsimp only
 rw [h1,h2,h3,show (List.head? ((['c','u','t']:List Char)::ws) == some "cut".toList)=true by simp only [List.head?_cons];decide +kernel]
 simp
theorem lifts_cut:P.liftsFinal=false:=by
 unfold Program.liftsFinal Program.headLifts
 rw [h]
 dsimp only
 rw [strip_cut]
 dsimp only
 rw [show (List.head? ((['c','u','t']:List Char)::ws) == some "carried".toList)=false by simp only [List.head?_cons];decide +kernel]
 split<;>rfl
end
theorem makeIs:Tryz.prog.make=some .cut:=by obtain ⟨ws,h⟩:=headWords;exact make_cut h
theorem mayEnterIs:Tryz.prog.mayEnter=true:=by obtain ⟨ws,h⟩:=headWords;exact mayEnter_cut h (by kernel_rfl) (by kernel_rfl) (by kernel_rfl)
theorem liftsIs:Tryz.prog.liftsFinal=false:=by obtain ⟨ws,h⟩:=headWords;exact lifts_cut h
end Go.Proofs.YtnbjogilidfkdaaGreat
