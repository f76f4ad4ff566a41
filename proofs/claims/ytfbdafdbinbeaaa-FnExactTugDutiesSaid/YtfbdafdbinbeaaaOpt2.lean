/- What functions of the given program compute, each as a contract over what its arguments read as. No condition beside those that each theorem states. -/
import Derived.Test.YtfbdafdbinbeaaaOpt
set_option linter.unusedVariables false
set_option linter.unusedSimpArgs false
namespace Go.Proofs.Ytfbdafdbinbeaaa
open Go Go.SL
set_option maxHeartbeats 1000000
theorem w64 (n : Int) : IntKind.i64.wrap n = (n + 9223372036854775808) % 18446744073709551616 - 9223372036854775808 := by rw [IntKind.wrap_i64]
theorem w64_I (n : Int) : I64 (IntKind.i64.wrap n) := by unfold I64; rw [w64]; omega
def F_PriceOf (a b : POption) : Int := if a = b then 0 else IntKind.i64.wrap (60 + (max a.start b.start - min a.start b.start))
theorem F_PriceOf_def (a b : DOption) : F_PriceOf (Con.con a) (Con.con b) = if F_SameOptions (Con.con a) (Con.con b) = true then 0 else IntKind.i64.wrap (60 + (max a.start b.start - min a.start b.start)) := by
  unfold F_PriceOf F_SameOptions
  simp only [decide_eq_true_eq]
  rfl
def F_CostOf (l : List POption) : Int := l.foldl (fun t o => IntKind.i64.wrap (t + o.cost)) 0
theorem F_CostOf_def (s : Sl DOption) : F_CostOf (Con.con s) = s.l.foldl (fun t o => IntKind.i64.wrap (t + o.cost)) 0 := by rw [con_sl, F_CostOf, List.foldl_map]; rfl
theorem fold_take {α β : Type} (f : β → α → β) (b : β) {l : List α} {k : Nat} (hk : k < l.length) : (l.take (k + 1)).foldl f b = f ((l.take k).foldl f b) l[k] := by
  rw [List.take_succ_eq_append_getElem hk, List.foldl_append]; rfl
theorem spec_CostOf_fn (a : Sl DOption) (h : Hp) (ha : a.Ok h) : Ct Try.prog 75 [a.val] h fun v h' => v = .int .i64 (F_CostOf (Con.con a)) ∧ h' = h := by
  have hl := ha.max
  rw [F_CostOf_def]
  refine Ct_of_T (fun A W => by simp) Try.func75 rfl rfl (by simp) fun W0 => ?_
  repeat' first | refine T_seq_region rfl ?_ | refine T_region rfl ?_ | refine T_ret ?_ | refine T_block ?_ | refine T_skip ?_ | refine T_exit ?_ | (simp (maxSteps := 2000000) only [go_sem, Nat.reduceAdd, Nat.reduceMul, Nat.reduceBEq, Nat.reduceLeDiff, Nat.reduceLT, Nat.reduceEqDiff]; try rfl) | refine T_seq ?_ | (refine And.intro ?_ ?_; focus (intros; simp_all only [Bool.or_eq_false_iff, Bool.or_eq_true, Bool.and_eq_true, and_self, true_and, and_true]; done))
  refine T_loop (ι := Nat) (fun k => ⟨[(3, true, .c (.v (.int .i64 ((a.l.take k).foldl (fun t o => IntKind.i64.wrap (t + o.cost)) 0)))), (6, true, .c (.v a.val)), (7, true, .c (.v (.int .i64 a.l.length))), (8, true, .c (.v (.int .i64 k)))], [], h, 0⟩) (fun k => k ≤ a.l.length) (fun k => a.l.length - k) 0 (Nat.zero_le _) ?_ ?_
  · simp (maxSteps := 2000000) only [go_sem, Nat.reduceAdd, Nat.reduceMul, Nat.reduceBEq, Nat.reduceLeDiff, Nat.reduceLT, Nat.reduceEqDiff]
    exact ⟨rfl, rfl⟩
  intro k hk
  repeat' first | refine T_seq_region rfl ?_ | refine T_region rfl ?_ | refine T_ret ?_ | refine T_block ?_ | refine T_skip ?_ | refine T_exit ?_ | (simp (maxSteps := 2000000) only [go_sem, Nat.reduceAdd, Nat.reduceMul, Nat.reduceBEq, Nat.reduceLeDiff, Nat.reduceLT, Nat.reduceEqDiff]; try rfl) | refine T_seq ?_ | (refine And.intro ?_ ?_; focus (intros; simp_all only [Bool.or_eq_false_iff, Bool.or_eq_true, Bool.and_eq_true, and_self, true_and, and_true]; done))
  refine T_cond rfl (fun hd => ?_) (fun hd => ?_)
  · have hlt := lt_of_dec hd
    repeat' first | refine T_seq_region rfl ?_ | refine T_region rfl ?_ | refine T_ret ?_ | refine T_block ?_ | refine T_skip ?_ | refine T_exit ?_ | (simp (maxSteps := 2000000) only [go_sem, Nat.reduceAdd, Nat.reduceMul, Nat.reduceBEq, Nat.reduceLeDiff, Nat.reduceLT, Nat.reduceEqDiff, at_DOption ha hlt, ha.some hlt, hlt, Int.toNat_natCast]; try rfl) | refine T_seq ?_ | (refine And.intro ?_ ?_; focus (intros; simp_all only [Bool.or_eq_false_iff, Bool.or_eq_true, Bool.and_eq_true, and_self, true_and, and_true]; done))
    exact ⟨k + 1, hlt, by omega, svInt (by rw [fold_take _ _ hlt]), svInt (wrapS hlt (by omega))⟩
  · have hge := ge_of_dec hd
    repeat' first | refine T_seq_region rfl ?_ | refine T_region rfl ?_ | refine T_ret ?_ | refine T_block ?_ | refine T_skip ?_ | refine T_exit ?_ | (simp (maxSteps := 2000000) only [go_sem, Nat.reduceAdd, Nat.reduceMul, Nat.reduceBEq, Nat.reduceLeDiff, Nat.reduceLT, Nat.reduceEqDiff]; try rfl) | refine T_seq ?_ | (refine And.intro ?_ ?_; focus (intros; simp_all only [Bool.or_eq_false_iff, Bool.or_eq_true, Bool.and_eq_true, and_self, true_and, and_true]; done))
    rw [List.take_of_length_le hge]
theorem impl_CostOf_fn (a : Sl DOption) (h : Hp) (ha : a.Ok h) : Ct Try.prog 76 [a.val] h fun v h' => v = .int .i64 (F_CostOf (Con.con a)) ∧ h' = h := by
  have hl := ha.max
  rw [F_CostOf_def]
  refine Ct_of_T (fun A W => by simp) Try.func76 rfl rfl (by simp) fun W0 => ?_
  repeat' first | refine T_seq_region rfl ?_ | refine T_region rfl ?_ | refine T_ret ?_ | refine T_block ?_ | refine T_skip ?_ | refine T_exit ?_ | (simp (maxSteps := 2000000) only [go_sem, Nat.reduceAdd, Nat.reduceMul, Nat.reduceBEq, Nat.reduceLeDiff, Nat.reduceLT, Nat.reduceEqDiff]; try rfl) | refine T_seq ?_ | (refine And.intro ?_ ?_; focus (intros; simp_all only [Bool.or_eq_false_iff, Bool.or_eq_true, Bool.and_eq_true, and_self, true_and, and_true]; done))
  refine T_loop (ι := Nat) (fun k => ⟨[(3, true, .c (.v (.int .i64 ((a.l.take k).foldl (fun t o => IntKind.i64.wrap (t + o.cost)) 0)))), (6, true, .c (.v a.val)), (7, true, .c (.v (.int .i64 a.l.length))), (8, true, .c (.v (.int .i64 k)))], [], h, 0⟩) (fun k => k ≤ a.l.length) (fun k => a.l.length - k) 0 (Nat.zero_le _) ?_ ?_
  · simp (maxSteps := 2000000) only [go_sem, Nat.reduceAdd, Nat.reduceMul, Nat.reduceBEq, Nat.reduceLeDiff, Nat.reduceLT, Nat.reduceEqDiff]
    exact ⟨rfl, rfl⟩
  intro k hk
  repeat' first | refine T_seq_region rfl ?_ | refine T_region rfl ?_ | refine T_ret ?_ | refine T_block ?_ | refine T_skip ?_ | refine T_exit ?_ | (simp (maxSteps := 2000000) only [go_sem, Nat.reduceAdd, Nat.reduceMul, Nat.reduceBEq, Nat.reduceLeDiff, Nat.reduceLT, Nat.reduceEqDiff]; try rfl) | refine T_seq ?_ | (refine And.intro ?_ ?_; focus (intros; simp_all only [Bool.or_eq_false_iff, Bool.or_eq_true, Bool.and_eq_true, and_self, true_and, and_true]; done))
  refine T_cond rfl (fun hd => ?_) (fun hd => ?_)
  · have hlt := lt_of_dec hd
    repeat' first | refine T_seq_region rfl ?_ | refine T_region rfl ?_ | refine T_ret ?_ | refine T_block ?_ | refine T_skip ?_ | refine T_exit ?_ | (simp (maxSteps := 2000000) only [go_sem, Nat.reduceAdd, Nat.reduceMul, Nat.reduceBEq, Nat.reduceLeDiff, Nat.reduceLT, Nat.reduceEqDiff, at_DOption ha hlt, ha.some hlt, hlt, Int.toNat_natCast]; try rfl) | refine T_seq ?_ | (refine And.intro ?_ ?_; focus (intros; simp_all only [Bool.or_eq_false_iff, Bool.or_eq_true, Bool.and_eq_true, and_self, true_and, and_true]; done))
    exact ⟨k + 1, hlt, by omega, svInt (by rw [fold_take _ _ hlt]), svInt (wrapS hlt (by omega))⟩
  · have hge := ge_of_dec hd
    repeat' first | refine T_seq_region rfl ?_ | refine T_region rfl ?_ | refine T_ret ?_ | refine T_block ?_ | refine T_skip ?_ | refine T_exit ?_ | (simp (maxSteps := 2000000) only [go_sem, Nat.reduceAdd, Nat.reduceMul, Nat.reduceBEq, Nat.reduceLeDiff, Nat.reduceLT, Nat.reduceEqDiff]; try rfl) | refine T_seq ?_ | (refine And.intro ?_ ?_; focus (intros; simp_all only [Bool.or_eq_false_iff, Bool.or_eq_true, Bool.and_eq_true, and_self, true_and, and_true]; done))
    rw [List.take_of_length_le hge]
def cheapGo (l : List Int) : Nat → Int
  | 0 => -1
  | k + 1 => if cheapGo l k < 0 ∨ l.getD k 0 < l.getD (cheapGo l k).toNat 0 then k else cheapGo l k
theorem cheapGo_lt (l : List Int) : ∀ k, (k = 0 ∧ cheapGo l k = -1) ∨ (0 ≤ cheapGo l k ∧ cheapGo l k < k)
  | 0 => .inl ⟨rfl, rfl⟩
  | k + 1 => by
    right
    simp only [cheapGo]
    rcases cheapGo_lt l k with ⟨rfl, h⟩ | h
    · rw [h]; simp
    · split <;> omega
def F_CheapestOption (l : List POption) : Int := cheapGo (l.map (·.cost)) l.length
theorem F_CheapestOption_def (s : Sl DOption) : F_CheapestOption (Con.con s) = cheapGo (s.l.map (·.cost)) s.l.length := by rw [con_sl, F_CheapestOption, List.map_map, List.length_map]; rfl
theorem cost_get {l : List DOption} {k : Nat} (hk : k < l.length) : (l.map (·.cost)).getD k 0 = l[k].cost := by simp [List.getD_eq_getElem?_getD, hk]
theorem zip_take {α β : Type} {a : List α} {b : List β} {k : Nat} (ha : k < a.length) (hb : k < b.length) {γ : Type} (f : γ → α × β → γ) (z : γ) : ((a.zip b).take (k + 1)).foldl f z = f (((a.zip b).take k).foldl f z) (a[k], b[k]) := by
  rw [fold_take _ _ (by rw [List.length_zip]; omega), List.getElem_zip]
def F_PlanPrice (a b : List POption) : Int := (a.zip b).foldl (fun t p => IntKind.i64.wrap (t + F_PriceOf p.1 p.2)) 0
theorem F_PlanPrice_def (a b : Sl DOption) : F_PlanPrice (Con.con a) (Con.con b) = (a.l.zip b.l).foldl (fun t p => IntKind.i64.wrap (t + F_PriceOf (Con.con p.1) (Con.con p.2))) 0 := by
  rw [con_sl, con_sl, F_PlanPrice, List.zip_map, List.foldl_map]; rfl
def keptGo (a b : List POption) : Nat → List Int
  | 0 => []
  | k + 1 => if a[k]? = b[k]? then keptGo a b k ++ [(k : Int)] else keptGo a b k
def F_KeptCalls (a b : List POption) : List Int := keptGo a b (min a.length b.length)
theorem keptGo_len (a b : List POption) : ∀ k, (keptGo a b k).length ≤ k
  | 0 => Nat.le_refl _
  | k + 1 => by
    have := keptGo_len a b k
    simp only [keptGo]
    split
    · rw [List.length_append, List.length_singleton]; omega
    · omega
theorem keptGo_in (a b : List POption) : ∀ k x, x ∈ keptGo a b k → 0 ≤ x ∧ x < k
  | 0, x, hx => by cases hx
  | k + 1, x, hx => by
    simp only [keptGo] at hx
    split at hx
    · rcases List.mem_append.1 hx with hx | hx
      · have := keptGo_in a b k x hx; omega
      · rw [List.mem_singleton.1 hx]; omega
    · have := keptGo_in a b k x hx; omega
end Go.Proofs.Ytfbdafdbinbeaaa
