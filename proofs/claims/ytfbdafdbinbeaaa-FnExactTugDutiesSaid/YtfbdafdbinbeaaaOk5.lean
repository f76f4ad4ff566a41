/- What functions of the given program compute, each as a contract over what its arguments read as. No condition beside those that each theorem states. -/
import Derived.Test.YtfbdafdbinbeaaaOk4
set_option linter.unusedVariables false
set_option linter.unusedSimpArgs false
namespace Go.Proofs.Ytfbdafdbinbeaaa
open Go Go.SL
set_option maxHeartbeats 1000000
def F_callOk (x : PHarbour) (a : DCall) : Bool := decide (0 ≤ a.ship ∧ a.ship < x.fleet.length ∧ 0 ≤ a.src ∧ a.src < x.chart.points.length ∧ 0 ≤ a.dst ∧ a.dst < x.chart.points.length ∧ a.src ≠ a.dst ∧ 0 ≤ a.ready ∧ a.ready ≤ 2880 ∧ a.ready ≤ a.due ∧ a.due ≤ 2880)
def F_CallOk (x : PHarbour) (a : DCall) : Bool := F_HarbourOk x && F_callOk x a
theorem F_callOk_def (x : DHarbour) (a : DCall) : F_callOk (Con.con x) a = decide (0 ≤ a.ship ∧ a.ship < x.fleet.l.length ∧ 0 ≤ a.src ∧ a.src < x.chart.points.l.length ∧ 0 ≤ a.dst ∧ a.dst < x.chart.points.l.length ∧ a.src ≠ a.dst ∧ 0 ≤ a.ready ∧ a.ready ≤ 2880 ∧ a.ready ≤ a.due ∧ a.due ≤ 2880) := by
  rw [F_callOk, show (Con.con x).fleet = x.fleet.l from con_shipl _, show (Con.con x).chart.points = x.chart.points.l from con_pointl _]
theorem impl_callOk_fn (x : DHarbour) (a : DCall) (h : Hp) (hx : Enc.ok h x) : Ct Try.prog 117 [x.v, a.v] h fun v h' => v = .bool (F_callOk (Con.con x) a) ∧ h' = h := by
  rw [F_callOk_def]
  refine Ct_of_T (fun A W => by simp) Try.func117 rfl rfl (by simp) fun W0 => ?_
  repeat' first | refine T_seq_region rfl ?_ | refine T_region rfl ?_ | refine T_ret ?_ | refine T_block ?_ | refine T_skip ?_ | refine T_exit ?_ | refine vfn_val (fun _ => isIndex_fn _ _ _) ?_ | refine vfn_val (fun _ => isMinute_fn _ _) ?_ | refine vfn_val (fun _ => within_fn _ _ _ _) ?_ | (simp (maxSteps := 2000000) only [go_sem, Nat.reduceAdd, Nat.reduceMul, Nat.reduceBEq, Nat.reduceLeDiff, Nat.reduceLT, Nat.reduceEqDiff]; try rfl) | refine T_seq ?_ | (refine And.intro ?_ ?_; focus (intros; simp_all only [Bool.or_eq_false_iff, Bool.or_eq_true, Bool.and_eq_true, and_self, true_and, and_true]; done))
  congr 1
  rw [Bool.eq_iff_iff]
  simp only [Bool.and_eq_true, decide_eq_true_eq, Bool.not_eq_true', beq_eq_false_iff_ne, bne_iff_ne, ne_eq, and_assoc]
  skip
theorem impl_CallOk_fn (x : DHarbour) (a : DCall) (h : Hp) (hx : Enc.ok h x) (ha : Enc.ok h a) : Ct Try.prog 57 [x.v, a.v] h fun v h' => v = .bool (F_CallOk (Con.con x) (Con.con a)) ∧ h' = h := by
  rw [F_CallOk, show (Con.con a : DCall) = a from rfl]
  refine Ct_of_T (fun A W => by simp) Try.func57 rfl rfl (by simp) fun W0 => ?_
  repeat' first | refine T_seq_region rfl ?_ | refine T_region rfl ?_ | refine T_ret ?_ | refine T_block ?_ | refine T_skip ?_ | refine T_exit ?_ | refine vfn_val (fun _ => impl_HarbourOk_fn x _ hx) ?_ | refine vfn_val (fun _ => impl_callOk_fn x a _ hx) ?_ | (simp (maxSteps := 2000000) only [go_sem, Nat.reduceAdd, Nat.reduceMul, Nat.reduceBEq, Nat.reduceLeDiff, Nat.reduceLT, Nat.reduceEqDiff]; try rfl) | refine T_seq ?_ | (refine And.intro ?_ ?_; focus (intros; simp_all only [Bool.or_eq_false_iff, Bool.or_eq_true, Bool.and_eq_true, and_self, true_and, and_true]; done))
theorem spec_CallOk_fn (x : DHarbour) (a : DCall) (h : Hp) (hx : Enc.ok h x) (ha : Enc.ok h a) : Ct Try.prog 55 [x.v, a.v] h fun v h' => v = .bool (F_CallOk (Con.con x) (Con.con a)) ∧ h' = h := by
  have l1 := hx.2.1.1.max
  have l2 := hx.2.2.1.max
  have w1 : IntKind.i64.wrap ((x.chart.points.l.length : Int) - 1) = (x.chart.points.l.length : Int) - 1 := wrap64 (by omega)
  have w2 : IntKind.i64.wrap ((x.fleet.l.length : Int) - 1) = (x.fleet.l.length : Int) - 1 := wrap64 (by omega)
  rw [F_CallOk, show (Con.con a : DCall) = a from rfl, F_callOk_def]
  refine Ct_of_T (fun A W => by simp) Try.func55 rfl rfl (by simp) fun W0 => ?_
  repeat' first | refine T_seq_region rfl ?_ | refine T_region rfl ?_ | refine T_ret ?_ | refine T_block ?_ | refine T_skip ?_ | refine T_exit ?_ | refine vfn_val (fun _ => spec_HarbourOk_fn x _ hx) ?_ | refine vfn_val (fun _ => l01In_fn _ _ _ _) ?_ | (simp (maxSteps := 2000000) only [go_sem, Nat.reduceAdd, Nat.reduceMul, Nat.reduceBEq, Nat.reduceLeDiff, Nat.reduceLT, Nat.reduceEqDiff, w1, w2]; try rfl) | refine T_seq ?_ | (refine And.intro ?_ ?_; focus (intros; simp_all only [Bool.or_eq_false_iff, Bool.or_eq_true, Bool.and_eq_true, and_self, true_and, and_true]; done))
  congr 1
  rw [Bool.eq_iff_iff]
  simp only [Bool.and_eq_true, decide_eq_true_eq, Bool.not_eq_true', beq_eq_false_iff_ne, bne_iff_ne, ne_eq, and_assoc]
  constructor <;> intro hh <;> refine ⟨hh.1, ?_⟩ <;> omega
def dC : DCall := ⟨0, 0, 0, 0, 0⟩
theorem cget {l : List DCall} {i : Nat} (hi : i < l.length) : l.getD i dC = l[i] := by simp [List.getD_eq_getElem?_getD, hi]
def caNew (l : List DCall) (i : Nat) : Bool := decide (∀ j, j < i → (l.getD j dC).ship ≠ (l.getD i dC).ship)
def clOk (x : PHarbour) (l : List DCall) (i : Nat) : Bool := F_callOk x (l.getD i dC) && caNew l i
def F_CallsOk (x : PHarbour) (l : List DCall) : Bool := F_HarbourOk x && decide (l.length ≤ 6) && decide (∀ i, i < l.length → clOk x l i = true)
end Go.Proofs.Ytfbdafdbinbeaaa
