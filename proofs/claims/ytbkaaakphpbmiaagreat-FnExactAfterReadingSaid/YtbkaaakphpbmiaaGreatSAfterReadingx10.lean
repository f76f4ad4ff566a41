/- Plain theorems about the model. -/
import Derived.Test.YtbkaaakphpbmiaaGreatSAfterReadingx7
set_option linter.unusedVariables false
set_option linter.unusedSimpArgs false
set_option maxRecDepth 4000
open Nat renaming reduceAdd → jq, reduceMul → jj, reduceBEq → jy, reduceLeDiff → jv, reduceLT → jk, reduceEqDiff → jx
open Bool renaming or_eq_false_iff → jp, or_eq_true → jQ, and_eq_true → jJ
open Int renaming toNat_natCast → jW, natCast_nonneg → jY
namespace Go.SL
open Go Go.RowKit
instance:Enc Bool where
 size:=1
 enc n:=[.bool n]
 len _:=rfl
 one n u hu:=by simp only [List.mem_singleton] at hu;subst hu;rfl
 ok _ n:=True
 mono _ H:=H
@[go_sem] theorem znz {b:Bool}:Enc.enc b=[.bool b]:=rfl
instance:Foot Bool:=⟨fun _=>[],fun _ _=>True,fun H _ _=>⟨H,trivial⟩,fun _ b hb=>by cases hb⟩
end Go.SL
