/- Plain theorems about the model: a symbolic state, its evaluation and its soundness. No condition; nothing of the program is named. -/
import Derived.Test.YtbkaaakphpbmiaaGreatXGBoundOf20
set_option linter.unusedVariables false
set_option linter.unusedSimpArgs false
open Nat renaming reduceAdd → yqa, reduceMul → yqb, reduceBEq → yqc, reduceLeDiff → yqd, reduceLT → yqe, reduceEqDiff → yqf
open Bool renaming or_eq_false_iff → yqg, or_eq_true → yqh, and_eq_true → yqi
open Int renaming toNat_natCast → yqj, natCast_nonneg → yqk
namespace Go.SL
open Go Go.RowKit
section
variable {both:Nat→Nat→Bool}
variable {ls:Nat→Nat} {n set rest l:Nat}
end
end Go.SL
namespace Go.SL
open Go Go.RowKit
end Go.SL
