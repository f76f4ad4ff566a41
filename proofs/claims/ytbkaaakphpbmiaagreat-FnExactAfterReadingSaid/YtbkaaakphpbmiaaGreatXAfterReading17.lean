/- What functions of the given program compute, as contracts. -/
import Derived.Test.YtbkaaakphpbmiaaGreatSAfterReadingx16
import Derived.Test.YtbkaaakphpbmiaaGreatXAfterReading15
set_option linter.unusedVariables false
set_option linter.unusedSimpArgs false
set_option maxRecDepth 4000
open Nat renaming reduceAdd → jq, reduceMul → jj, reduceBEq → jy, reduceLeDiff → jv, reduceLT → jk, reduceEqDiff → jx
open Bool renaming or_eq_false_iff → jp, or_eq_true → jQ, and_eq_true → jJ
open Int renaming toNat_natCast → jW, natCast_nonneg → jY
open Go.Proofs.Tryz renaming prog → jV
namespace Go.Proofs.YtbkaaakphpbmiaaGreat
open Go Go.SL
set_option maxHeartbeats 1000000
theorem zx0 (a:Sl Int) (h:Hp) (ha:a.Ok h) (hz:a.l.length≤1048576):Ct jV 75 [a.val] h fun v h'=>∃ s:Sl Int,v=s.val∧s.l=a.l∧RowAt 3 h' s∧∀ g,s.a=some ⟨g,0,none⟩→h g=none:=by
 have hall:=ha.all (by decide)
 have hd:(h.ldL a.val 1).isSome=true:=by rw [show h.ldL a.val 1=_ from hall];rfl
 refine zdn (fun A W=>by simp) Tryz.func75 rfl rfl (by simp) fun W0=>?_
 repeat' first|refine Wa ?_|(simp only [go_sem,jq,jj,jy,jv,jk,jx,hall,show h.ldL a.val 1=some (a.l.flatMap Enc.enc) from hall,Option.isSome_some,Option.getD_some];try rfl)|refine Wb ?_|fail
 refine ⟨by simp only [maxLen];omega,by omega,?_⟩
 repeat' first|refine Wa ?_|(simp only [go_sem,jq,jj,jy,jv,jk,jx,hall,show h.ldL a.val 1=some (a.l.flatMap Enc.enc) from hall,Option.isSome_some,Option.getD_some];try rfl)|refine Wb ?_|fail
 refine ⟨fun u hu=>by obtain ⟨x,_,hx⟩:=List.mem_flatMap.1 hu;exact Enc.one x u hx,by simp only [maxLen];omega,by omega,?_⟩
 refine znD 1 a.l rfl rfl (Nat.zero_add _) rfl fun s h' e1 R f1 l1 k1=>?_
 refine Wk ?_
 exact ⟨s,rfl,e1,R,f1⟩
end Go.Proofs.YtbkaaakphpbmiaaGreat
