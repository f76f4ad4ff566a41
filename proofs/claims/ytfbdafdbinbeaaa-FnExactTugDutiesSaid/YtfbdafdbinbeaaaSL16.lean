/- Plain theorems about the model: a symbolic state, its evaluation and its soundness. No condition; nothing of the program is named. -/
import Derived.Test.YtfbdafdbinbeaaaSL14
import Derived.Test.YtfbdafdbinbeaaaSL15
set_option linter.unusedVariables false
set_option linter.unusedSimpArgs false
namespace Go.SL
open Go Go.RowKit
theorem wrap64 {n : Int} (h : -9223372036854775808 ≤ n ∧ n ≤ 9223372036854775807) : IntKind.i64.wrap n = n := by
  simp only [IntKind.wrap, IntKind.bits, IntKind.signed, Bool.true_and, Nat.reduceSub, Int.reducePow]
  split <;> rename_i hh <;> simp only [decide_eq_true_eq, ge_iff_le] at hh <;> omega
theorem wrapS {k n : Nat} (h : k < n) (hn : n ≤ 9223372036854775807) : IntKind.i64.wrap ((k : Int) + 1) = ((k + 1 : Nat) : Int) := by
  rw [wrap64 (by omega)]; rfl
theorem svInt {a b : Int} (h : a = b) : (some (true, SV.c (SC.v (Value.int IntKind.i64 a))) : Option (Bool × SV)) = some (true, SV.c (SC.v (Value.int IntKind.i64 b))) := by rw [h]
theorem atI {h : Hp} {s : Sl Int} (H : s.Ok h) {i : Nat} (hi : i < s.l.length) : h.lds (Option.map (·.add (i * 1)) s.a) 1 = some [.int .i64 s.l[i]] := H.at hi
theorem take_eq_succ {α : Type} {a b : List α} {k : Nat} (ha : k < a.length) (hb : k < b.length) (h : a.take k = b.take k) (he : a[k] = b[k]) : a.take (k + 1) = b.take (k + 1) := by
  rw [List.take_succ_eq_append_getElem ha, List.take_succ_eq_append_getElem hb, h, he]
theorem ne_of_bne {α : Type} [BEq α] [LawfulBEq α] {a b : α} (h : (a != b) = true) : a ≠ b := by simpa using h
theorem eq_of_bne {α : Type} [BEq α] [LawfulBEq α] {a b : α} (h : (a != b) = false) : a = b := by simpa using h
theorem boolF {p : Prop} [Decidable p] (h : ¬p) : Value.bool false = Value.bool (decide p) := by rw [decide_eq_false h]
theorem boolT {p : Prop} [Decidable p] (h : p) : Value.bool true = Value.bool (decide p) := by rw [decide_eq_true h]
theorem lt_of_dec {k n : Nat} (h : decide (k < n) = true) : k < n := by simpa using h
theorem ge_of_dec {k n : Nat} (h : decide (k < n) = false) : n ≤ k := by simpa using h
/-! ### more data -/
structure Crew where
  start : Int
  fin : Int
  pause : Int
  moves : Sl Int
def Crew.cells (c : Crew) : List Value := [.int .i64 c.start, .int .i64 c.fin, .int .i64 c.pause, c.moves.val]
instance : Enc Crew where
  size := 4
  enc p := p.cells
  len _ := rfl
  one p u hu := by simp only [Crew.cells, List.mem_cons, List.not_mem_nil, or_false] at hu; rcases hu with rfl | rfl | rfl | rfl <;> rfl
  ok h p := I64 p.start ∧ I64 p.fin ∧ I64 p.pause ∧ p.moves.Ok h
  mono hs H := ⟨H.1, H.2.1, H.2.2.1, H.2.2.2.mono hs⟩
theorem ev_enc_crew {p : Crew} : Enc.enc p = [.int .i64 p.start, .int .i64 p.fin, .int .i64 p.pause, p.moves.val] := rfl
attribute [go_sem] ev_enc_crew
def Crew.v (c : Crew) : Value := .agg #[.int .i64 c.start, .int .i64 c.fin, .int .i64 c.pause, c.moves.val]
end Go.SL
