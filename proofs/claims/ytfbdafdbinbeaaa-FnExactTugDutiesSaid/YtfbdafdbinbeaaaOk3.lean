/- What functions of the given program compute, each as a contract over what its arguments read as. No condition beside those that each theorem states. -/
import Derived.Test.YtfbdafdbinbeaaaOk2
import Derived.Test.YtfbdafdbinbeaaaSLT
set_option linter.unusedVariables false
set_option linter.unusedSimpArgs false
namespace Go.Proofs.Ytfbdafdbinbeaaa
open Go Go.SL
set_option maxHeartbeats 1000000

def dP : DPoint := ⟨ByteArray.empty, false⟩
def dG : DSegment := ⟨0, 0, 0, 0, false⟩
theorem pget {l : List DPoint} {i : Nat} (hi : i < l.length) : l.getD i dP = l[i] := by simp [List.getD_eq_getElem?_getD, hi]
theorem gget {l : List DSegment} {i : Nat} (hi : i < l.length) : l.getD i dG = l[i] := by simp [List.getD_eq_getElem?_getD, hi]
def F_PointNamed (l : List DPoint) (n : ByteArray) : Int := F_find (fun p => decide (p.name = n)) l
theorem con_pointl (s : Sl DPoint) : Con.con s = s.l := List.map_id _
theorem con_segl (s : Sl DSegment) : Con.con s = s.l := List.map_id _
theorem con_shipl (s : Sl DShip) : Con.con s = s.l := List.map_id _
def F_joins (s : DSegment) (a b : Int) : Bool := decide (s.a = a) && decide (s.b = b) || decide (s.a = b) && decide (s.b = a)
theorem l05Joins_fn (s : DSegment) (a b : Int) (h : Hp) : Ct Try.prog 139 [s.v, .int .i64 a, .int .i64 b] h fun v h' => v = .bool (F_joins s a b) ∧ h' = h := by
  refine Ct_of_T (fun A W => by simp) Try.func139 rfl rfl (by simp) fun W0 => ?_
  repeat' first | refine T_seq_region rfl ?_ | refine T_region rfl ?_ | refine T_ret ?_ | refine T_block ?_ | refine T_skip ?_ | refine T_exit ?_ | (simp (maxSteps := 2000000) only [go_sem, Nat.reduceAdd, Nat.reduceMul, Nat.reduceBEq, Nat.reduceLeDiff, Nat.reduceLT, Nat.reduceEqDiff]; try rfl) | refine T_seq ?_ | (refine And.intro ?_ ?_; focus (intros; simp_all only [Bool.or_eq_false_iff, Bool.or_eq_true, Bool.and_eq_true, and_self, true_and, and_true]; done))
theorem joins_fn (s : DSegment) (a b : Int) (h : Hp) : Ct Try.prog 150 [s.v, .int .i64 a, .int .i64 b] h fun v h' => v = .bool (F_joins s a b) ∧ h' = h := by
  refine Ct_of_T (fun A W => by simp) Try.func150 rfl rfl (by simp) fun W0 => ?_
  repeat' first | refine T_seq_region rfl ?_ | refine T_region rfl ?_ | refine T_ret ?_ | refine T_block ?_ | refine T_skip ?_ | refine T_exit ?_ | (simp (maxSteps := 2000000) only [go_sem, Nat.reduceAdd, Nat.reduceMul, Nat.reduceBEq, Nat.reduceLeDiff, Nat.reduceLT, Nat.reduceEqDiff]; try rfl) | refine T_seq ?_ | (refine And.intro ?_ ?_; focus (intros; simp_all only [Bool.or_eq_false_iff, Bool.or_eq_true, Bool.and_eq_true, and_self, true_and, and_true]; done))
def ptOk (l : List DPoint) (i : Nat) : Bool := F_IsName (l.getD i dP).name && decide (F_PointNamed l (l.getD i dP).name = (i : Int))
def segIn (n : Nat) (s : DSegment) : Bool := decide (0 ≤ s.a ∧ s.a < n ∧ 0 ≤ s.b ∧ s.b < n ∧ s.a ≠ s.b ∧ 0 ≤ s.depth ∧ s.depth ≤ 3000 ∧ 1 ≤ s.minutes ∧ s.minutes ≤ 240)
def segNew (l : List DSegment) (i : Nat) : Bool := decide (∀ j, j < i → F_joins (l.getD j dG) (l.getD i dG).a (l.getD i dG).b = false)
def segOk (n : Nat) (l : List DSegment) (i : Nat) : Bool := segIn n (l.getD i dG) && segNew l i
def F_ChartOk (c : PChart) : Bool := decide (c.points.length ≤ 8) && decide (c.segments.length ≤ 10) && decide (∀ i, i < c.points.length → ptOk c.points i = true) && decide (∀ i, i < c.segments.length → segOk c.points.length c.segments i = true)
theorem F_ChartOk_def (c : DChart) : F_ChartOk (Con.con c) = (decide (c.points.l.length ≤ 8) && decide (c.segments.l.length ≤ 10) && decide (∀ i, i < c.points.l.length → ptOk c.points.l i = true) && decide (∀ i, i < c.segments.l.length → segOk c.points.l.length c.segments.l i = true)) := by
  rw [F_ChartOk, show (Con.con c).points = c.points.l from con_pointl _, show (Con.con c).segments = c.segments.l from con_segl _]
/-- All up to k, and one more. -/
theorem allN_false {p : Nat → Bool} {n k : Nat} (hk : k < n) (h : p k = false) : decide (∀ i, i < n → p i = true) = false := decide_eq_false fun hh => by rw [hh k hk] at h; cases h
theorem allN_next {p : Nat → Bool} {k : Nat} (hp : ∀ i, i < k → p i = true) (h : p k = true) : ∀ i, i < k + 1 → p i = true := fun i hi => by
  rcases Nat.lt_succ_iff_lt_or_eq.1 hi with hi | rfl
  · exact hp i hi
  · exact h
theorem allN_done {p : Nat → Bool} {n k : Nat} (hk : n ≤ k) (hp : ∀ i, i < k → p i = true) : decide (∀ i, i < n → p i = true) = true := decide_eq_true fun i hi => hp i (by omega)
theorem allN_zero {p : Nat → Bool} : ∀ i, i < 0 → p i = true := fun i hi => absurd hi (Nat.not_lt_zero _)

theorem spec_PointNamed_fn (c : DChart) (n : ByteArray) (h : Hp) (hc : Enc.ok h c) : Ct Try.prog 138 [c.v, .string n] h fun v h' => v = .int .i64 (F_PointNamed c.points.l n) ∧ h' = h := by
  have hp := hc.1
  have hl := hp.max
  refine Ct_of_T (fun A W => by simp) Try.func138 rfl rfl (by simp) fun W0 => ?_
  repeat' first | refine T_seq_region rfl ?_ | refine T_region rfl ?_ | refine T_ret ?_ | refine T_block ?_ | refine T_skip ?_ | refine T_exit ?_ | (simp (maxSteps := 2000000) only [go_sem, Nat.reduceAdd, Nat.reduceMul, Nat.reduceBEq, Nat.reduceLeDiff, Nat.reduceLT, Nat.reduceEqDiff]; try rfl) | refine T_seq ?_ | (refine And.intro ?_ ?_; focus (intros; simp_all only [Bool.or_eq_false_iff, Bool.or_eq_true, Bool.and_eq_true, and_self, true_and, and_true]; done))
  refine T_loop (ι := Nat) (fun k => ⟨[(1, true, .c (.v (.string n))), (8, true, .c (.v c.points.val)), (9, true, .c (.v (.int .i64 c.points.l.length))), (10, true, .c (.v (.int .i64 k)))], [], h, 1⟩) (fun k => k ≤ c.points.l.length ∧ ∀ i (hi : i < c.points.l.length), i < k → (decide (c.points.l[i].name = n)) = false) (fun k => c.points.l.length - k) 0 ⟨Nat.zero_le _, fun i _ hi => absurd hi (Nat.not_lt_zero _)⟩ ?_ ?_
  · simp (maxSteps := 2000000) only [go_sem, Nat.reduceAdd, Nat.reduceMul, Nat.reduceBEq, Nat.reduceLeDiff, Nat.reduceLT, Nat.reduceEqDiff]
    first | exact rfl | exact ⟨rfl, rfl⟩ | exact ⟨rfl, rfl, rfl⟩ | exact ⟨rfl, rfl, rfl, rfl⟩ | exact ⟨rfl, rfl, rfl, rfl, rfl⟩
  intro k hk
  repeat' first | refine T_seq_region rfl ?_ | refine T_region rfl ?_ | refine T_ret ?_ | refine T_block ?_ | refine T_skip ?_ | refine T_exit ?_ | (simp (maxSteps := 2000000) only [go_sem, Nat.reduceAdd, Nat.reduceMul, Nat.reduceBEq, Nat.reduceLeDiff, Nat.reduceLT, Nat.reduceEqDiff]; try rfl) | refine T_seq ?_ | (refine And.intro ?_ ?_; focus (intros; simp_all only [Bool.or_eq_false_iff, Bool.or_eq_true, Bool.and_eq_true, and_self, true_and, and_true]; done))
  refine T_cond rfl (fun hd => ?_) (fun hd => ?_)
  · have hlt := lt_of_dec hd
    repeat' first | refine T_seq_region rfl ?_ | refine T_region rfl ?_ | refine T_ret ?_ | refine T_block ?_ | refine T_skip ?_ | refine T_exit ?_ | (simp (maxSteps := 2000000) only [go_sem, Nat.reduceAdd, Nat.reduceMul, Nat.reduceBEq, Nat.reduceLeDiff, Nat.reduceLT, Nat.reduceEqDiff, at_DPoint hp hlt, hp.some hlt, hlt, Int.toNat_natCast]; try rfl) | refine T_seq ?_ | (refine And.intro ?_ ?_; focus (intros; simp_all only [Bool.or_eq_false_iff, Bool.or_eq_true, Bool.and_eq_true, and_self, true_and, and_true]; done))
    refine T_cond rfl (fun hq => ?_) (fun hq => ?_)
    · repeat' first | refine T_seq_region rfl ?_ | refine T_region rfl ?_ | refine T_ret ?_ | refine T_block ?_ | refine T_skip ?_ | refine T_exit ?_ | (simp (maxSteps := 2000000) only [go_sem, Nat.reduceAdd, Nat.reduceMul, Nat.reduceBEq, Nat.reduceLeDiff, Nat.reduceLT, Nat.reduceEqDiff]; try rfl) | refine T_seq ?_ | (refine And.intro ?_ ?_; focus (intros; simp_all only [Bool.or_eq_false_iff, Bool.or_eq_true, Bool.and_eq_true, and_self, true_and, and_true]; done))
      rw [F_PointNamed, find_hit hlt hq hk.2]
    · repeat' first | refine T_seq_region rfl ?_ | refine T_region rfl ?_ | refine T_ret ?_ | refine T_block ?_ | refine T_skip ?_ | refine T_exit ?_ | (simp (maxSteps := 2000000) only [go_sem, Nat.reduceAdd, Nat.reduceMul, Nat.reduceBEq, Nat.reduceLeDiff, Nat.reduceLT, Nat.reduceEqDiff]; try rfl) | refine T_seq ?_ | (refine And.intro ?_ ?_; focus (intros; simp_all only [Bool.or_eq_false_iff, Bool.or_eq_true, Bool.and_eq_true, and_self, true_and, and_true]; done))
      refine ⟨k + 1, ⟨hlt, fun i hi hik => ?_⟩, by omega, svInt (wrapS hlt (by omega))⟩
      rcases Nat.lt_succ_iff_lt_or_eq.1 hik with hik | rfl
      · exact hk.2 i hi hik
      · exact hq
  · have hge := ge_of_dec hd
    repeat' first | refine T_seq_region rfl ?_ | refine T_region rfl ?_ | refine T_ret ?_ | refine T_block ?_ | refine T_skip ?_ | refine T_exit ?_ | (simp (maxSteps := 2000000) only [go_sem, Nat.reduceAdd, Nat.reduceMul, Nat.reduceBEq, Nat.reduceLeDiff, Nat.reduceLT, Nat.reduceEqDiff]; try rfl) | refine T_seq ?_ | (refine And.intro ?_ ?_; focus (intros; simp_all only [Bool.or_eq_false_iff, Bool.or_eq_true, Bool.and_eq_true, and_self, true_and, and_true]; done))
    rw [F_PointNamed, find_none (fun i hi => hk.2 i hi (by omega))]

theorem impl_PointNamed_fn (c : DChart) (n : ByteArray) (h : Hp) (hc : Enc.ok h c) : Ct Try.prog 149 [c.v, .string n] h fun v h' => v = .int .i64 (F_PointNamed c.points.l n) ∧ h' = h := by
  have hp := hc.1
  have hl := hp.max
  refine Ct_of_T (fun A W => by simp) Try.func149 rfl rfl (by simp) fun W0 => ?_
  repeat' first | refine T_seq_region rfl ?_ | refine T_region rfl ?_ | refine T_ret ?_ | refine T_block ?_ | refine T_skip ?_ | refine T_exit ?_ | (simp (maxSteps := 2000000) only [go_sem, Nat.reduceAdd, Nat.reduceMul, Nat.reduceBEq, Nat.reduceLeDiff, Nat.reduceLT, Nat.reduceEqDiff]; try rfl) | refine T_seq ?_ | (refine And.intro ?_ ?_; focus (intros; simp_all only [Bool.or_eq_false_iff, Bool.or_eq_true, Bool.and_eq_true, and_self, true_and, and_true]; done))
  refine T_loop (ι := Nat) (fun k => ⟨[(1, true, .c (.v (.string n))), (8, true, .c (.v c.points.val)), (9, true, .c (.v (.int .i64 c.points.l.length))), (10, true, .c (.v (.int .i64 k)))], [], h, 1⟩) (fun k => k ≤ c.points.l.length ∧ ∀ i (hi : i < c.points.l.length), i < k → (decide (c.points.l[i].name = n)) = false) (fun k => c.points.l.length - k) 0 ⟨Nat.zero_le _, fun i _ hi => absurd hi (Nat.not_lt_zero _)⟩ ?_ ?_
  · simp (maxSteps := 2000000) only [go_sem, Nat.reduceAdd, Nat.reduceMul, Nat.reduceBEq, Nat.reduceLeDiff, Nat.reduceLT, Nat.reduceEqDiff]
    first | exact rfl | exact ⟨rfl, rfl⟩ | exact ⟨rfl, rfl, rfl⟩ | exact ⟨rfl, rfl, rfl, rfl⟩ | exact ⟨rfl, rfl, rfl, rfl, rfl⟩
  intro k hk
  repeat' first | refine T_seq_region rfl ?_ | refine T_region rfl ?_ | refine T_ret ?_ | refine T_block ?_ | refine T_skip ?_ | refine T_exit ?_ | (simp (maxSteps := 2000000) only [go_sem, Nat.reduceAdd, Nat.reduceMul, Nat.reduceBEq, Nat.reduceLeDiff, Nat.reduceLT, Nat.reduceEqDiff]; try rfl) | refine T_seq ?_ | (refine And.intro ?_ ?_; focus (intros; simp_all only [Bool.or_eq_false_iff, Bool.or_eq_true, Bool.and_eq_true, and_self, true_and, and_true]; done))
  refine T_cond rfl (fun hd => ?_) (fun hd => ?_)
  · have hlt := lt_of_dec hd
    repeat' first | refine T_seq_region rfl ?_ | refine T_region rfl ?_ | refine T_ret ?_ | refine T_block ?_ | refine T_skip ?_ | refine T_exit ?_ | (simp (maxSteps := 2000000) only [go_sem, Nat.reduceAdd, Nat.reduceMul, Nat.reduceBEq, Nat.reduceLeDiff, Nat.reduceLT, Nat.reduceEqDiff, at_DPoint hp hlt, hp.some hlt, hlt, Int.toNat_natCast]; try rfl) | refine T_seq ?_ | (refine And.intro ?_ ?_; focus (intros; simp_all only [Bool.or_eq_false_iff, Bool.or_eq_true, Bool.and_eq_true, and_self, true_and, and_true]; done))
    refine T_cond rfl (fun hq => ?_) (fun hq => ?_)
    · repeat' first | refine T_seq_region rfl ?_ | refine T_region rfl ?_ | refine T_ret ?_ | refine T_block ?_ | refine T_skip ?_ | refine T_exit ?_ | (simp (maxSteps := 2000000) only [go_sem, Nat.reduceAdd, Nat.reduceMul, Nat.reduceBEq, Nat.reduceLeDiff, Nat.reduceLT, Nat.reduceEqDiff]; try rfl) | refine T_seq ?_ | (refine And.intro ?_ ?_; focus (intros; simp_all only [Bool.or_eq_false_iff, Bool.or_eq_true, Bool.and_eq_true, and_self, true_and, and_true]; done))
      rw [F_PointNamed, find_hit hlt hq hk.2]
    · repeat' first | refine T_seq_region rfl ?_ | refine T_region rfl ?_ | refine T_ret ?_ | refine T_block ?_ | refine T_skip ?_ | refine T_exit ?_ | (simp (maxSteps := 2000000) only [go_sem, Nat.reduceAdd, Nat.reduceMul, Nat.reduceBEq, Nat.reduceLeDiff, Nat.reduceLT, Nat.reduceEqDiff]; try rfl) | refine T_seq ?_ | (refine And.intro ?_ ?_; focus (intros; simp_all only [Bool.or_eq_false_iff, Bool.or_eq_true, Bool.and_eq_true, and_self, true_and, and_true]; done))
      refine ⟨k + 1, ⟨hlt, fun i hi hik => ?_⟩, by omega, svInt (wrapS hlt (by omega))⟩
      rcases Nat.lt_succ_iff_lt_or_eq.1 hik with hik | rfl
      · exact hk.2 i hi hik
      · exact hq
  · have hge := ge_of_dec hd
    repeat' first | refine T_seq_region rfl ?_ | refine T_region rfl ?_ | refine T_ret ?_ | refine T_block ?_ | refine T_skip ?_ | refine T_exit ?_ | (simp (maxSteps := 2000000) only [go_sem, Nat.reduceAdd, Nat.reduceMul, Nat.reduceBEq, Nat.reduceLeDiff, Nat.reduceLT, Nat.reduceEqDiff]; try rfl) | refine T_seq ?_ | (refine And.intro ?_ ?_; focus (intros; simp_all only [Bool.or_eq_false_iff, Bool.or_eq_true, Bool.and_eq_true, and_self, true_and, and_true]; done))
    rw [F_PointNamed, find_none (fun i hi => hk.2 i hi (by omega))]

theorem spec_ChartOk_fn (c : DChart) (h : Hp) (hc : Enc.ok h c) : Ct Try.prog 102 [c.v] h fun v h' => v = .bool (F_ChartOk (Con.con c)) ∧ h' = h := by
  have hp := hc.1
  have hg := hc.2
  have hl := hp.max
  have hl2 := hg.max
  have hw : IntKind.i64.wrap ((c.points.l.length : Int) - 1) = (c.points.l.length : Int) - 1 := wrap64 (by omega)
  rw [F_ChartOk_def]
  refine Ct_of_T (fun A W => by simp) Try.func102 rfl rfl (by simp) fun W0 => ?_
  repeat' first | refine T_seq_region rfl ?_ | refine T_region rfl ?_ | refine T_ret ?_ | refine T_block ?_ | refine T_skip ?_ | refine T_exit ?_ | (simp (maxSteps := 2000000) only [go_sem, Nat.reduceAdd, Nat.reduceMul, Nat.reduceBEq, Nat.reduceLeDiff, Nat.reduceLT, Nat.reduceEqDiff]; try rfl) | refine T_seq ?_ | (refine And.intro ?_ ?_; focus (intros; simp_all only [Bool.or_eq_false_iff, Bool.or_eq_true, Bool.and_eq_true, and_self, true_and, and_true]; done))
  refine T_cond rfl (fun hc1 => ?_) (fun hc1 => ?_)
  · repeat' first | refine T_seq_region rfl ?_ | refine T_region rfl ?_ | refine T_ret ?_ | refine T_block ?_ | refine T_skip ?_ | refine T_exit ?_ | (simp (maxSteps := 2000000) only [go_sem, Nat.reduceAdd, Nat.reduceMul, Nat.reduceBEq, Nat.reduceLeDiff, Nat.reduceLT, Nat.reduceEqDiff]; try rfl) | refine T_seq ?_ | (refine And.intro ?_ ?_; focus (intros; simp_all only [Bool.or_eq_false_iff, Bool.or_eq_true, Bool.and_eq_true, and_self, true_and, and_true]; done))
    congr 1
    rcases (Bool.or_eq_true _ _).mp hc1 with h1 | h1
    · rw [decide_eq_false (by have := of_decide_eq_true h1; omega)]; rfl
    · rw [decide_eq_false (p := c.segments.l.length ≤ 10) (by have := of_decide_eq_true h1; omega), Bool.and_false]; rfl
  obtain ⟨hc2, hc3⟩ := Bool.or_eq_false_iff.1 hc1
  have hc2 := of_decide_eq_false hc2
  have hc3 := of_decide_eq_false hc3
  rw [decide_eq_true (show c.points.l.length ≤ 8 by omega), decide_eq_true (show c.segments.l.length ≤ 10 by omega), Bool.and_self, Bool.true_and]
  repeat' first | refine T_seq_region rfl ?_ | refine T_region rfl ?_ | refine T_ret ?_ | refine T_block ?_ | refine T_skip ?_ | refine T_exit ?_ | (simp (maxSteps := 2000000) only [go_sem, Nat.reduceAdd, Nat.reduceMul, Nat.reduceBEq, Nat.reduceLeDiff, Nat.reduceLT, Nat.reduceEqDiff]; try rfl) | refine T_seq ?_ | (refine And.intro ?_ ?_; focus (intros; simp_all only [Bool.or_eq_false_iff, Bool.or_eq_true, Bool.and_eq_true, and_self, true_and, and_true]; done))
  refine T_loop (ι := Nat) (fun k => ⟨[(1, true, .c (.p 0 0)), (20, true, .c (.v c.points.val)), (21, true, .c (.v (.int .i64 c.points.l.length))), (22, true, .c (.v (.int .i64 k)))], [(0, .box 62 [.v c.points.val, .v c.segments.val])], h, 1⟩) (fun k => k ≤ c.points.l.length ∧ ∀ i, i < k → ptOk c.points.l i = true) (fun k => c.points.l.length - k) 0 ⟨Nat.zero_le _, allN_zero⟩ ?_ ?_
  · simp (maxSteps := 2000000) only [go_sem, Nat.reduceAdd, Nat.reduceMul, Nat.reduceBEq, Nat.reduceLeDiff, Nat.reduceLT, Nat.reduceEqDiff]
    first | exact rfl | exact ⟨rfl, rfl⟩ | exact ⟨rfl, rfl, rfl⟩ | exact ⟨rfl, rfl, rfl, rfl⟩ | exact ⟨rfl, rfl, rfl, rfl, rfl⟩
  · intro k hk
    repeat' first | refine T_seq_region rfl ?_ | refine T_region rfl ?_ | refine T_ret ?_ | refine T_block ?_ | refine T_skip ?_ | refine T_exit ?_ | (simp (maxSteps := 2000000) only [go_sem, Nat.reduceAdd, Nat.reduceMul, Nat.reduceBEq, Nat.reduceLeDiff, Nat.reduceLT, Nat.reduceEqDiff]; try rfl) | refine T_seq ?_ | (refine And.intro ?_ ?_; focus (intros; simp_all only [Bool.or_eq_false_iff, Bool.or_eq_true, Bool.and_eq_true, and_self, true_and, and_true]; done))
    refine T_cond rfl (fun hd => ?_) (fun hd => ?_)
    · have hlt := lt_of_dec hd
      repeat' first | refine T_seq_region rfl ?_ | refine T_region rfl ?_ | refine T_ret ?_ | refine T_block ?_ | refine T_skip ?_ | refine T_exit ?_ | refine vfn_val (fun _ => spec_IsName_fn _ _ (hp.el hlt)) ?_ | refine vfn_val (fun _ => spec_PointNamed_fn c _ _ hc) ?_ | (simp (maxSteps := 2000000) only [go_sem, Nat.reduceAdd, Nat.reduceMul, Nat.reduceBEq, Nat.reduceLeDiff, Nat.reduceLT, Nat.reduceEqDiff, at_DPoint hp hlt, hp.some hlt, hlt, Int.toNat_natCast]; try rfl) | refine T_seq ?_ | (refine And.intro ?_ ?_; focus (intros; simp_all only [Bool.or_eq_false_iff, Bool.or_eq_true, Bool.and_eq_true, and_self, true_and, and_true]; done))
      refine T_cond rfl (fun hq => ?_) (fun hq => ?_)
      · repeat' first | refine T_seq_region rfl ?_ | refine T_region rfl ?_ | refine T_ret ?_ | refine T_block ?_ | refine T_skip ?_ | refine T_exit ?_ | (simp (maxSteps := 2000000) only [go_sem, Nat.reduceAdd, Nat.reduceMul, Nat.reduceBEq, Nat.reduceLeDiff, Nat.reduceLT, Nat.reduceEqDiff]; try rfl) | refine T_seq ?_ | (refine And.intro ?_ ?_; focus (intros; simp_all only [Bool.or_eq_false_iff, Bool.or_eq_true, Bool.and_eq_true, and_self, true_and, and_true]; done))
        rw [allN_false hlt ?_]; rfl
        rw [ptOk, pget hlt]
        rcases (Bool.or_eq_true _ _).mp hq with h1 | h1
        · rw [Bool.not_eq_true'] at h1; rw [h1]; rfl
        · rw [decide_eq_false (ne_of_bne h1), Bool.and_false]
      · obtain ⟨h1, h2⟩ := Bool.or_eq_false_iff.1 hq
        rw [Bool.not_eq_false'] at h1
        repeat' first | refine T_seq_region rfl ?_ | refine T_region rfl ?_ | refine T_ret ?_ | refine T_block ?_ | refine T_skip ?_ | refine T_exit ?_ | (simp (maxSteps := 2000000) only [go_sem, Nat.reduceAdd, Nat.reduceMul, Nat.reduceBEq, Nat.reduceLeDiff, Nat.reduceLT, Nat.reduceEqDiff]; try rfl) | refine T_seq ?_ | (refine And.intro ?_ ?_; focus (intros; simp_all only [Bool.or_eq_false_iff, Bool.or_eq_true, Bool.and_eq_true, and_self, true_and, and_true]; done))
        exact ⟨k + 1, ⟨hlt, allN_next hk.2 (by rw [ptOk, pget hlt, h1, decide_eq_true (eq_of_bne h2)]; rfl)⟩, by omega, svInt (wrapS hlt (by omega))⟩
    · have hge := ge_of_dec hd
      rw [allN_done hge hk.2, Bool.true_and]
      repeat' first | refine T_seq_region rfl ?_ | refine T_region rfl ?_ | refine T_ret ?_ | refine T_block ?_ | refine T_skip ?_ | refine T_exit ?_ | (simp (maxSteps := 2000000) only [go_sem, Nat.reduceAdd, Nat.reduceMul, Nat.reduceBEq, Nat.reduceLeDiff, Nat.reduceLT, Nat.reduceEqDiff]; try rfl) | refine T_seq ?_ | (refine And.intro ?_ ?_; focus (intros; simp_all only [Bool.or_eq_false_iff, Bool.or_eq_true, Bool.and_eq_true, and_self, true_and, and_true]; done))
      refine T_loop (ι := Nat) (fun k => ⟨[(1, true, .c (.p 0 0)), (41, true, .c (.v c.segments.val)), (42, true, .c (.v (.int .i64 c.segments.l.length))), (43, true, .c (.v (.int .i64 k)))], [(0, .box 62 [.v c.points.val, .v c.segments.val])], h, 1⟩) (fun k => k ≤ c.segments.l.length ∧ ∀ i, i < k → segOk c.points.l.length c.segments.l i = true) (fun k => c.segments.l.length - k) 0 ⟨Nat.zero_le _, allN_zero⟩ ?_ ?_
      · simp (maxSteps := 2000000) only [go_sem, Nat.reduceAdd, Nat.reduceMul, Nat.reduceBEq, Nat.reduceLeDiff, Nat.reduceLT, Nat.reduceEqDiff]
        first | exact rfl | exact ⟨rfl, rfl⟩ | exact ⟨rfl, rfl, rfl⟩ | exact ⟨rfl, rfl, rfl, rfl⟩ | exact ⟨rfl, rfl, rfl, rfl, rfl⟩
      intro k hk
      repeat' first | refine T_seq_region rfl ?_ | refine T_region rfl ?_ | refine T_ret ?_ | refine T_block ?_ | refine T_skip ?_ | refine T_exit ?_ | (simp (maxSteps := 2000000) only [go_sem, Nat.reduceAdd, Nat.reduceMul, Nat.reduceBEq, Nat.reduceLeDiff, Nat.reduceLT, Nat.reduceEqDiff]; try rfl) | refine T_seq ?_ | (refine And.intro ?_ ?_; focus (intros; simp_all only [Bool.or_eq_false_iff, Bool.or_eq_true, Bool.and_eq_true, and_self, true_and, and_true]; done))
      refine T_cond rfl (fun hd => ?_) (fun hd => ?_)
      · have hlt := lt_of_dec hd
        repeat' first | refine T_seq_region rfl ?_ | refine T_region rfl ?_ | refine T_ret ?_ | refine T_block ?_ | refine T_skip ?_ | refine T_exit ?_ | refine vfn_val (fun _ => l01In_fn _ _ _ _) ?_ | refine vfn_val (fun _ => l01In_fn _ _ _ _) ?_ | (simp (maxSteps := 2000000) only [go_sem, Nat.reduceAdd, Nat.reduceMul, Nat.reduceBEq, Nat.reduceLeDiff, Nat.reduceLT, Nat.reduceEqDiff, at_DSegment hg hlt, hg.some hlt, hlt, Int.toNat_natCast, hw]; try rfl) | refine T_seq ?_ | (refine And.intro ?_ ?_; focus (intros; simp_all only [Bool.or_eq_false_iff, Bool.or_eq_true, Bool.and_eq_true, and_self, true_and, and_true]; done))
        refine T_cond rfl (fun hq => ?_) (fun hq => ?_)
        · repeat' first | refine T_seq_region rfl ?_ | refine T_region rfl ?_ | refine T_ret ?_ | refine T_block ?_ | refine T_skip ?_ | refine T_exit ?_ | (simp (maxSteps := 2000000) only [go_sem, Nat.reduceAdd, Nat.reduceMul, Nat.reduceBEq, Nat.reduceLeDiff, Nat.reduceLT, Nat.reduceEqDiff]; try rfl) | refine T_seq ?_ | (refine And.intro ?_ ?_; focus (intros; simp_all only [Bool.or_eq_false_iff, Bool.or_eq_true, Bool.and_eq_true, and_self, true_and, and_true]; done))
          rw [allN_false hlt ?_]
          rw [segOk, gget hlt, segIn, decide_eq_false ?_, Bool.false_and]
          simp only [Bool.or_eq_true, Bool.not_eq_true', Bool.and_eq_false_iff, decide_eq_false_iff_not, beq_iff_eq] at hq
          omega
        · have hin : segIn c.points.l.length c.segments.l[k] = true := by
            simp only [Bool.or_eq_false_iff, Bool.not_eq_false', Bool.and_eq_true, decide_eq_true_eq, beq_eq_false_iff_ne] at hq
            rw [segIn]
            refine decide_eq_true ?_
            omega
          have hgo := Sl.to_ok hg k
          have hlt0 := Sl.to_len hk.1
          have hcap := hg.1
          repeat' first | refine T_seq_region rfl ?_ | refine T_region rfl ?_ | refine T_ret ?_ | refine T_block ?_ | refine T_skip ?_ | refine T_exit ?_ | (simp (maxSteps := 2000000) only [go_sem, Nat.reduceAdd, Nat.reduceMul, Nat.reduceBEq, Nat.reduceLeDiff, Nat.reduceLT, Nat.reduceEqDiff]; try rfl) | refine T_seq ?_ | (refine And.intro ?_ ?_; focus (intros; simp_all only [Bool.or_eq_false_iff, Bool.or_eq_true, Bool.and_eq_true, and_self, true_and, and_true]; done))
          refine ⟨by omega, ?_⟩
          simp only [Int.toNat_zero, Nat.sub_zero, Nat.zero_mul, add_zf, map_idf, ite_self]
          rw [slice_to hk.1]
          repeat' first | refine T_seq_region rfl ?_ | refine T_region rfl ?_ | refine T_ret ?_ | refine T_block ?_ | refine T_skip ?_ | refine T_exit ?_ | (simp (maxSteps := 2000000) only [go_sem, Nat.reduceAdd, Nat.reduceMul, Nat.reduceBEq, Nat.reduceLeDiff, Nat.reduceLT, Nat.reduceEqDiff]; try rfl) | refine T_seq ?_ | (refine And.intro ?_ ?_; focus (intros; simp_all only [Bool.or_eq_false_iff, Bool.or_eq_true, Bool.and_eq_true, and_self, true_and, and_true]; done))
          refine T_loop (ι := Nat) (fun j => ⟨[(1, true, .c (.p 0 0)), (6, true, .c (.p 1 0)), (41, true, .c (.v c.segments.val)), (42, true, .c (.v (.int .i64 c.segments.l.length))), (43, true, .c (.v (.int .i64 k))), (88, true, .c (.v (c.segments.to k).val)), (89, true, .c (.v (.int .i64 k))), (90, true, .c (.v (.int .i64 j)))], [(0, .box 62 [.v c.points.val, .v c.segments.val]), (1, .box 187 [.v (.int .i64 c.segments.l[k].a), .v (.int .i64 c.segments.l[k].b), .v (.int .i64 c.segments.l[k].depth), .v (.int .i64 c.segments.l[k].minutes), .v (.bool c.segments.l[k].meet)])], h, 2⟩) (fun j => j ≤ k ∧ ∀ i, i < j → F_joins (c.segments.l.getD i dG) c.segments.l[k].a c.segments.l[k].b = false) (fun j => k - j) 0 ⟨Nat.zero_le _, fun i hi => absurd hi (Nat.not_lt_zero _)⟩ ?_ ?_
          · simp (maxSteps := 2000000) only [go_sem, Nat.reduceAdd, Nat.reduceMul, Nat.reduceBEq, Nat.reduceLeDiff, Nat.reduceLT, Nat.reduceEqDiff]
            first | exact rfl | exact ⟨rfl, rfl⟩ | exact ⟨rfl, rfl, rfl⟩ | exact ⟨rfl, rfl, rfl, rfl⟩ | exact ⟨rfl, rfl, rfl, rfl, rfl⟩
          intro j hj
          repeat' first | refine T_seq_region rfl ?_ | refine T_region rfl ?_ | refine T_ret ?_ | refine T_block ?_ | refine T_skip ?_ | refine T_exit ?_ | (simp (maxSteps := 2000000) only [go_sem, Nat.reduceAdd, Nat.reduceMul, Nat.reduceBEq, Nat.reduceLeDiff, Nat.reduceLT, Nat.reduceEqDiff]; try rfl) | refine T_seq ?_ | (refine And.intro ?_ ?_; focus (intros; simp_all only [Bool.or_eq_false_iff, Bool.or_eq_true, Bool.and_eq_true, and_self, true_and, and_true]; done))
          refine T_cond rfl (fun hq2 => ?_) (fun hq2 => ?_)
          · have hltj := lt_of_dec hq2
            have hltj' : j < (c.segments.to k).l.length := by omega
            have hltj2 : j < c.segments.l.length := by omega
            have hje := Sl.to_get hltj' hltj2
            repeat' first | refine T_seq_region rfl ?_ | refine T_region rfl ?_ | refine T_ret ?_ | refine T_block ?_ | refine T_skip ?_ | refine T_exit ?_ | refine vfn_val (fun _ => l05Joins_fn _ _ _ _) ?_ | (simp (maxSteps := 2000000) only [go_sem, Nat.reduceAdd, Nat.reduceMul, Nat.reduceBEq, Nat.reduceLeDiff, Nat.reduceLT, Nat.reduceEqDiff, at_DSegment hgo hltj', hgo.some hltj', hltj', hltj, Int.toNat_natCast, hje]; try rfl) | refine T_seq ?_ | (refine And.intro ?_ ?_; focus (intros; simp_all only [Bool.or_eq_false_iff, Bool.or_eq_true, Bool.and_eq_true, and_self, true_and, and_true]; done))
            refine T_cond rfl (fun hq3 => ?_) (fun hq3 => ?_)
            · repeat' first | refine T_seq_region rfl ?_ | refine T_region rfl ?_ | refine T_ret ?_ | refine T_block ?_ | refine T_skip ?_ | refine T_exit ?_ | (simp (maxSteps := 2000000) only [go_sem, Nat.reduceAdd, Nat.reduceMul, Nat.reduceBEq, Nat.reduceLeDiff, Nat.reduceLT, Nat.reduceEqDiff]; try rfl) | refine T_seq ?_ | (refine And.intro ?_ ?_; focus (intros; simp_all only [Bool.or_eq_false_iff, Bool.or_eq_true, Bool.and_eq_true, and_self, true_and, and_true]; done))
              rw [allN_false hlt ?_]
              rw [segOk, gget hlt, hin, Bool.true_and, segNew]
              refine decide_eq_false fun hh => ?_
              have := hh j hltj
              rw [gget hltj2, gget hlt, hq3] at this
              cases this
            · repeat' first | refine T_seq_region rfl ?_ | refine T_region rfl ?_ | refine T_ret ?_ | refine T_block ?_ | refine T_skip ?_ | refine T_exit ?_ | (simp (maxSteps := 2000000) only [go_sem, Nat.reduceAdd, Nat.reduceMul, Nat.reduceBEq, Nat.reduceLeDiff, Nat.reduceLT, Nat.reduceEqDiff]; try rfl) | refine T_seq ?_ | (refine And.intro ?_ ?_; focus (intros; simp_all only [Bool.or_eq_false_iff, Bool.or_eq_true, Bool.and_eq_true, and_self, true_and, and_true]; done))
              exact ⟨j + 1, ⟨hltj, fun i hi => by
                rcases Nat.lt_succ_iff_lt_or_eq.1 hi with hi | rfl
                · exact hj.2 i hi
                · rw [gget hltj2]; exact hq3⟩, by omega, svInt (wrapS hltj (by omega))⟩
          · have hgej := ge_of_dec hq2
            repeat' first | refine T_seq_region rfl ?_ | refine T_region rfl ?_ | refine T_ret ?_ | refine T_block ?_ | refine T_skip ?_ | refine T_exit ?_ | (simp (maxSteps := 2000000) only [go_sem, Nat.reduceAdd, Nat.reduceMul, Nat.reduceBEq, Nat.reduceLeDiff, Nat.reduceLT, Nat.reduceEqDiff]; try rfl) | refine T_seq ?_ | (refine And.intro ?_ ?_; focus (intros; simp_all only [Bool.or_eq_false_iff, Bool.or_eq_true, Bool.and_eq_true, and_self, true_and, and_true]; done))
            refine ⟨k + 1, ⟨hlt, allN_next hk.2 ?_⟩, by omega, svInt (wrapS hlt (by omega))⟩
            rw [segOk, gget hlt, hin, Bool.true_and, segNew]
            refine decide_eq_true fun i hi => ?_
            rw [gget hlt]; exact hj.2 i (by omega)
      · have hge := ge_of_dec hd
        repeat' first | refine T_seq_region rfl ?_ | refine T_region rfl ?_ | refine T_ret ?_ | refine T_block ?_ | refine T_skip ?_ | refine T_exit ?_ | (simp (maxSteps := 2000000) only [go_sem, Nat.reduceAdd, Nat.reduceMul, Nat.reduceBEq, Nat.reduceLeDiff, Nat.reduceLT, Nat.reduceEqDiff]; try rfl) | refine T_seq ?_ | (refine And.intro ?_ ?_; focus (intros; simp_all only [Bool.or_eq_false_iff, Bool.or_eq_true, Bool.and_eq_true, and_self, true_and, and_true]; done))
        rw [allN_done hge hk.2]

theorem impl_ChartOk_fn (c : DChart) (h : Hp) (hc : Enc.ok h c) : Ct Try.prog 110 [c.v] h fun v h' => v = .bool (F_ChartOk (Con.con c)) ∧ h' = h := by
  have hp := hc.1
  have hg := hc.2
  have hl := hp.max
  have hl2 := hg.max
  have hw : IntKind.i64.wrap ((c.points.l.length : Int) - 1) = (c.points.l.length : Int) - 1 := wrap64 (by omega)
  rw [F_ChartOk_def]
  refine Ct_of_T (fun A W => by simp) Try.func110 rfl rfl (by simp) fun W0 => ?_
  repeat' first | refine T_seq_region rfl ?_ | refine T_region rfl ?_ | refine T_ret ?_ | refine T_block ?_ | refine T_skip ?_ | refine T_exit ?_ | (simp (maxSteps := 2000000) only [go_sem, Nat.reduceAdd, Nat.reduceMul, Nat.reduceBEq, Nat.reduceLeDiff, Nat.reduceLT, Nat.reduceEqDiff]; try rfl) | refine T_seq ?_ | (refine And.intro ?_ ?_; focus (intros; simp_all only [Bool.or_eq_false_iff, Bool.or_eq_true, Bool.and_eq_true, and_self, true_and, and_true]; done))
  refine T_cond rfl (fun hc1 => ?_) (fun hc1 => ?_)
  · repeat' first | refine T_seq_region rfl ?_ | refine T_region rfl ?_ | refine T_ret ?_ | refine T_block ?_ | refine T_skip ?_ | refine T_exit ?_ | (simp (maxSteps := 2000000) only [go_sem, Nat.reduceAdd, Nat.reduceMul, Nat.reduceBEq, Nat.reduceLeDiff, Nat.reduceLT, Nat.reduceEqDiff]; try rfl) | refine T_seq ?_ | (refine And.intro ?_ ?_; focus (intros; simp_all only [Bool.or_eq_false_iff, Bool.or_eq_true, Bool.and_eq_true, and_self, true_and, and_true]; done))
    congr 1
    rcases (Bool.or_eq_true _ _).mp hc1 with h1 | h1
    · rw [decide_eq_false (by have := of_decide_eq_true h1; omega)]; rfl
    · rw [decide_eq_false (p := c.segments.l.length ≤ 10) (by have := of_decide_eq_true h1; omega), Bool.and_false]; rfl
  obtain ⟨hc2, hc3⟩ := Bool.or_eq_false_iff.1 hc1
  have hc2 := of_decide_eq_false hc2
  have hc3 := of_decide_eq_false hc3
  rw [decide_eq_true (show c.points.l.length ≤ 8 by omega), decide_eq_true (show c.segments.l.length ≤ 10 by omega), Bool.and_self, Bool.true_and]
  repeat' first | refine T_seq_region rfl ?_ | refine T_region rfl ?_ | refine T_ret ?_ | refine T_block ?_ | refine T_skip ?_ | refine T_exit ?_ | (simp (maxSteps := 2000000) only [go_sem, Nat.reduceAdd, Nat.reduceMul, Nat.reduceBEq, Nat.reduceLeDiff, Nat.reduceLT, Nat.reduceEqDiff]; try rfl) | refine T_seq ?_ | (refine And.intro ?_ ?_; focus (intros; simp_all only [Bool.or_eq_false_iff, Bool.or_eq_true, Bool.and_eq_true, and_self, true_and, and_true]; done))
  refine T_loop (ι := Nat) (fun k => ⟨[(1, true, .c (.p 0 0)), (20, true, .c (.v c.points.val)), (21, true, .c (.v (.int .i64 c.points.l.length))), (22, true, .c (.v (.int .i64 k)))], [(0, .box 62 [.v c.points.val, .v c.segments.val])], h, 1⟩) (fun k => k ≤ c.points.l.length ∧ ∀ i, i < k → ptOk c.points.l i = true) (fun k => c.points.l.length - k) 0 ⟨Nat.zero_le _, allN_zero⟩ ?_ ?_
  · simp (maxSteps := 2000000) only [go_sem, Nat.reduceAdd, Nat.reduceMul, Nat.reduceBEq, Nat.reduceLeDiff, Nat.reduceLT, Nat.reduceEqDiff]
    first | exact rfl | exact ⟨rfl, rfl⟩ | exact ⟨rfl, rfl, rfl⟩ | exact ⟨rfl, rfl, rfl, rfl⟩ | exact ⟨rfl, rfl, rfl, rfl, rfl⟩
  · intro k hk
    repeat' first | refine T_seq_region rfl ?_ | refine T_region rfl ?_ | refine T_ret ?_ | refine T_block ?_ | refine T_skip ?_ | refine T_exit ?_ | (simp (maxSteps := 2000000) only [go_sem, Nat.reduceAdd, Nat.reduceMul, Nat.reduceBEq, Nat.reduceLeDiff, Nat.reduceLT, Nat.reduceEqDiff]; try rfl) | refine T_seq ?_ | (refine And.intro ?_ ?_; focus (intros; simp_all only [Bool.or_eq_false_iff, Bool.or_eq_true, Bool.and_eq_true, and_self, true_and, and_true]; done))
    refine T_cond rfl (fun hd => ?_) (fun hd => ?_)
    · have hlt := lt_of_dec hd
      repeat' first | refine T_seq_region rfl ?_ | refine T_region rfl ?_ | refine T_ret ?_ | refine T_block ?_ | refine T_skip ?_ | refine T_exit ?_ | refine vfn_val (fun _ => impl_IsName_fn _ _ (hp.el hlt)) ?_ | refine vfn_val (fun _ => impl_PointNamed_fn c _ _ hc) ?_ | (simp (maxSteps := 2000000) only [go_sem, Nat.reduceAdd, Nat.reduceMul, Nat.reduceBEq, Nat.reduceLeDiff, Nat.reduceLT, Nat.reduceEqDiff, at_DPoint hp hlt, hp.some hlt, hlt, Int.toNat_natCast]; try rfl) | refine T_seq ?_ | (refine And.intro ?_ ?_; focus (intros; simp_all only [Bool.or_eq_false_iff, Bool.or_eq_true, Bool.and_eq_true, and_self, true_and, and_true]; done))
      refine T_cond rfl (fun hq => ?_) (fun hq => ?_)
      · repeat' first | refine T_seq_region rfl ?_ | refine T_region rfl ?_ | refine T_ret ?_ | refine T_block ?_ | refine T_skip ?_ | refine T_exit ?_ | (simp (maxSteps := 2000000) only [go_sem, Nat.reduceAdd, Nat.reduceMul, Nat.reduceBEq, Nat.reduceLeDiff, Nat.reduceLT, Nat.reduceEqDiff]; try rfl) | refine T_seq ?_ | (refine And.intro ?_ ?_; focus (intros; simp_all only [Bool.or_eq_false_iff, Bool.or_eq_true, Bool.and_eq_true, and_self, true_and, and_true]; done))
        rw [allN_false hlt ?_]; rfl
        rw [ptOk, pget hlt]
        rcases (Bool.or_eq_true _ _).mp hq with h1 | h1
        · rw [Bool.not_eq_true'] at h1; rw [h1]; rfl
        · rw [decide_eq_false (ne_of_bne h1), Bool.and_false]
      · obtain ⟨h1, h2⟩ := Bool.or_eq_false_iff.1 hq
        rw [Bool.not_eq_false'] at h1
        repeat' first | refine T_seq_region rfl ?_ | refine T_region rfl ?_ | refine T_ret ?_ | refine T_block ?_ | refine T_skip ?_ | refine T_exit ?_ | (simp (maxSteps := 2000000) only [go_sem, Nat.reduceAdd, Nat.reduceMul, Nat.reduceBEq, Nat.reduceLeDiff, Nat.reduceLT, Nat.reduceEqDiff]; try rfl) | refine T_seq ?_ | (refine And.intro ?_ ?_; focus (intros; simp_all only [Bool.or_eq_false_iff, Bool.or_eq_true, Bool.and_eq_true, and_self, true_and, and_true]; done))
        exact ⟨k + 1, ⟨hlt, allN_next hk.2 (by rw [ptOk, pget hlt, h1, decide_eq_true (eq_of_bne h2)]; rfl)⟩, by omega, svInt (wrapS hlt (by omega))⟩
    · have hge := ge_of_dec hd
      rw [allN_done hge hk.2, Bool.true_and]
      repeat' first | refine T_seq_region rfl ?_ | refine T_region rfl ?_ | refine T_ret ?_ | refine T_block ?_ | refine T_skip ?_ | refine T_exit ?_ | (simp (maxSteps := 2000000) only [go_sem, Nat.reduceAdd, Nat.reduceMul, Nat.reduceBEq, Nat.reduceLeDiff, Nat.reduceLT, Nat.reduceEqDiff]; try rfl) | refine T_seq ?_ | (refine And.intro ?_ ?_; focus (intros; simp_all only [Bool.or_eq_false_iff, Bool.or_eq_true, Bool.and_eq_true, and_self, true_and, and_true]; done))
      refine T_loop (ι := Nat) (fun k => ⟨[(1, true, .c (.p 0 0)), (41, true, .c (.v c.segments.val)), (42, true, .c (.v (.int .i64 c.segments.l.length))), (43, true, .c (.v (.int .i64 k)))], [(0, .box 62 [.v c.points.val, .v c.segments.val])], h, 1⟩) (fun k => k ≤ c.segments.l.length ∧ ∀ i, i < k → segOk c.points.l.length c.segments.l i = true) (fun k => c.segments.l.length - k) 0 ⟨Nat.zero_le _, allN_zero⟩ ?_ ?_
      · simp (maxSteps := 2000000) only [go_sem, Nat.reduceAdd, Nat.reduceMul, Nat.reduceBEq, Nat.reduceLeDiff, Nat.reduceLT, Nat.reduceEqDiff]
        first | exact rfl | exact ⟨rfl, rfl⟩ | exact ⟨rfl, rfl, rfl⟩ | exact ⟨rfl, rfl, rfl, rfl⟩ | exact ⟨rfl, rfl, rfl, rfl, rfl⟩
      intro k hk
      repeat' first | refine T_seq_region rfl ?_ | refine T_region rfl ?_ | refine T_ret ?_ | refine T_block ?_ | refine T_skip ?_ | refine T_exit ?_ | (simp (maxSteps := 2000000) only [go_sem, Nat.reduceAdd, Nat.reduceMul, Nat.reduceBEq, Nat.reduceLeDiff, Nat.reduceLT, Nat.reduceEqDiff]; try rfl) | refine T_seq ?_ | (refine And.intro ?_ ?_; focus (intros; simp_all only [Bool.or_eq_false_iff, Bool.or_eq_true, Bool.and_eq_true, and_self, true_and, and_true]; done))
      refine T_cond rfl (fun hd => ?_) (fun hd => ?_)
      · have hlt := lt_of_dec hd
        repeat' first | refine T_seq_region rfl ?_ | refine T_region rfl ?_ | refine T_ret ?_ | refine T_block ?_ | refine T_skip ?_ | refine T_exit ?_ | refine vfn_val (fun _ => isIndex_fn _ _ _) ?_ | refine vfn_val (fun _ => within_fn _ _ _ _) ?_ | (simp (maxSteps := 2000000) only [go_sem, Nat.reduceAdd, Nat.reduceMul, Nat.reduceBEq, Nat.reduceLeDiff, Nat.reduceLT, Nat.reduceEqDiff, at_DSegment hg hlt, hg.some hlt, hlt, Int.toNat_natCast]; try rfl) | refine T_seq ?_ | (refine And.intro ?_ ?_; focus (intros; simp_all only [Bool.or_eq_false_iff, Bool.or_eq_true, Bool.and_eq_true, and_self, true_and, and_true]; done))
        refine T_cond rfl (fun hq => ?_) (fun hq => ?_)
        · repeat' first | refine T_seq_region rfl ?_ | refine T_region rfl ?_ | refine T_ret ?_ | refine T_block ?_ | refine T_skip ?_ | refine T_exit ?_ | (simp (maxSteps := 2000000) only [go_sem, Nat.reduceAdd, Nat.reduceMul, Nat.reduceBEq, Nat.reduceLeDiff, Nat.reduceLT, Nat.reduceEqDiff]; try rfl) | refine T_seq ?_ | (refine And.intro ?_ ?_; focus (intros; simp_all only [Bool.or_eq_false_iff, Bool.or_eq_true, Bool.and_eq_true, and_self, true_and, and_true]; done))
          rw [allN_false hlt ?_]
          rw [segOk, gget hlt, segIn, decide_eq_false ?_, Bool.false_and]
          simp only [Bool.or_eq_true, Bool.not_eq_true', Bool.and_eq_false_iff, decide_eq_false_iff_not, beq_iff_eq] at hq
          omega
        · have hin : segIn c.points.l.length c.segments.l[k] = true := by
            simp only [Bool.or_eq_false_iff, Bool.not_eq_false', Bool.and_eq_true, decide_eq_true_eq, beq_eq_false_iff_ne] at hq
            rw [segIn]
            refine decide_eq_true ?_
            omega
          have hgo := Sl.to_ok hg k
          have hlt0 := Sl.to_len hk.1
          have hcap := hg.1
          repeat' first | refine T_seq_region rfl ?_ | refine T_region rfl ?_ | refine T_ret ?_ | refine T_block ?_ | refine T_skip ?_ | refine T_exit ?_ | (simp (maxSteps := 2000000) only [go_sem, Nat.reduceAdd, Nat.reduceMul, Nat.reduceBEq, Nat.reduceLeDiff, Nat.reduceLT, Nat.reduceEqDiff]; try rfl) | refine T_seq ?_ | (refine And.intro ?_ ?_; focus (intros; simp_all only [Bool.or_eq_false_iff, Bool.or_eq_true, Bool.and_eq_true, and_self, true_and, and_true]; done))
          refine ⟨by omega, ?_⟩
          simp only [Int.toNat_zero, Nat.sub_zero, Nat.zero_mul, add_zf, map_idf, ite_self]
          rw [slice_to hk.1]
          repeat' first | refine T_seq_region rfl ?_ | refine T_region rfl ?_ | refine T_ret ?_ | refine T_block ?_ | refine T_skip ?_ | refine T_exit ?_ | (simp (maxSteps := 2000000) only [go_sem, Nat.reduceAdd, Nat.reduceMul, Nat.reduceBEq, Nat.reduceLeDiff, Nat.reduceLT, Nat.reduceEqDiff]; try rfl) | refine T_seq ?_ | (refine And.intro ?_ ?_; focus (intros; simp_all only [Bool.or_eq_false_iff, Bool.or_eq_true, Bool.and_eq_true, and_self, true_and, and_true]; done))
          refine T_loop (ι := Nat) (fun j => ⟨[(1, true, .c (.p 0 0)), (6, true, .c (.p 1 0)), (41, true, .c (.v c.segments.val)), (42, true, .c (.v (.int .i64 c.segments.l.length))), (43, true, .c (.v (.int .i64 k))), (86, true, .c (.v (c.segments.to k).val)), (87, true, .c (.v (.int .i64 k))), (88, true, .c (.v (.int .i64 j)))], [(0, .box 62 [.v c.points.val, .v c.segments.val]), (1, .box 187 [.v (.int .i64 c.segments.l[k].a), .v (.int .i64 c.segments.l[k].b), .v (.int .i64 c.segments.l[k].depth), .v (.int .i64 c.segments.l[k].minutes), .v (.bool c.segments.l[k].meet)])], h, 2⟩) (fun j => j ≤ k ∧ ∀ i, i < j → F_joins (c.segments.l.getD i dG) c.segments.l[k].a c.segments.l[k].b = false) (fun j => k - j) 0 ⟨Nat.zero_le _, fun i hi => absurd hi (Nat.not_lt_zero _)⟩ ?_ ?_
          · simp (maxSteps := 2000000) only [go_sem, Nat.reduceAdd, Nat.reduceMul, Nat.reduceBEq, Nat.reduceLeDiff, Nat.reduceLT, Nat.reduceEqDiff]
            first | exact rfl | exact ⟨rfl, rfl⟩ | exact ⟨rfl, rfl, rfl⟩ | exact ⟨rfl, rfl, rfl, rfl⟩ | exact ⟨rfl, rfl, rfl, rfl, rfl⟩
          intro j hj
          repeat' first | refine T_seq_region rfl ?_ | refine T_region rfl ?_ | refine T_ret ?_ | refine T_block ?_ | refine T_skip ?_ | refine T_exit ?_ | (simp (maxSteps := 2000000) only [go_sem, Nat.reduceAdd, Nat.reduceMul, Nat.reduceBEq, Nat.reduceLeDiff, Nat.reduceLT, Nat.reduceEqDiff]; try rfl) | refine T_seq ?_ | (refine And.intro ?_ ?_; focus (intros; simp_all only [Bool.or_eq_false_iff, Bool.or_eq_true, Bool.and_eq_true, and_self, true_and, and_true]; done))
          refine T_cond rfl (fun hq2 => ?_) (fun hq2 => ?_)
          · have hltj := lt_of_dec hq2
            have hltj' : j < (c.segments.to k).l.length := by omega
            have hltj2 : j < c.segments.l.length := by omega
            have hje := Sl.to_get hltj' hltj2
            repeat' first | refine T_seq_region rfl ?_ | refine T_region rfl ?_ | refine T_ret ?_ | refine T_block ?_ | refine T_skip ?_ | refine T_exit ?_ | refine vfn_val (fun _ => joins_fn _ _ _ _) ?_ | (simp (maxSteps := 2000000) only [go_sem, Nat.reduceAdd, Nat.reduceMul, Nat.reduceBEq, Nat.reduceLeDiff, Nat.reduceLT, Nat.reduceEqDiff, at_DSegment hgo hltj', hgo.some hltj', hltj', hltj, Int.toNat_natCast, hje]; try rfl) | refine T_seq ?_ | (refine And.intro ?_ ?_; focus (intros; simp_all only [Bool.or_eq_false_iff, Bool.or_eq_true, Bool.and_eq_true, and_self, true_and, and_true]; done))
            refine T_cond rfl (fun hq3 => ?_) (fun hq3 => ?_)
            · repeat' first | refine T_seq_region rfl ?_ | refine T_region rfl ?_ | refine T_ret ?_ | refine T_block ?_ | refine T_skip ?_ | refine T_exit ?_ | (simp (maxSteps := 2000000) only [go_sem, Nat.reduceAdd, Nat.reduceMul, Nat.reduceBEq, Nat.reduceLeDiff, Nat.reduceLT, Nat.reduceEqDiff]; try rfl) | refine T_seq ?_ | (refine And.intro ?_ ?_; focus (intros; simp_all only [Bool.or_eq_false_iff, Bool.or_eq_true, Bool.and_eq_true, and_self, true_and, and_true]; done))
              rw [allN_false hlt ?_]
              rw [segOk, gget hlt, hin, Bool.true_and, segNew]
              refine decide_eq_false fun hh => ?_
              have := hh j hltj
              rw [gget hltj2, gget hlt, hq3] at this
              cases this
            · repeat' first | refine T_seq_region rfl ?_ | refine T_region rfl ?_ | refine T_ret ?_ | refine T_block ?_ | refine T_skip ?_ | refine T_exit ?_ | (simp (maxSteps := 2000000) only [go_sem, Nat.reduceAdd, Nat.reduceMul, Nat.reduceBEq, Nat.reduceLeDiff, Nat.reduceLT, Nat.reduceEqDiff]; try rfl) | refine T_seq ?_ | (refine And.intro ?_ ?_; focus (intros; simp_all only [Bool.or_eq_false_iff, Bool.or_eq_true, Bool.and_eq_true, and_self, true_and, and_true]; done))
              exact ⟨j + 1, ⟨hltj, fun i hi => by
                rcases Nat.lt_succ_iff_lt_or_eq.1 hi with hi | rfl
                · exact hj.2 i hi
                · rw [gget hltj2]; exact hq3⟩, by omega, svInt (wrapS hltj (by omega))⟩
          · have hgej := ge_of_dec hq2
            repeat' first | refine T_seq_region rfl ?_ | refine T_region rfl ?_ | refine T_ret ?_ | refine T_block ?_ | refine T_skip ?_ | refine T_exit ?_ | (simp (maxSteps := 2000000) only [go_sem, Nat.reduceAdd, Nat.reduceMul, Nat.reduceBEq, Nat.reduceLeDiff, Nat.reduceLT, Nat.reduceEqDiff]; try rfl) | refine T_seq ?_ | (refine And.intro ?_ ?_; focus (intros; simp_all only [Bool.or_eq_false_iff, Bool.or_eq_true, Bool.and_eq_true, and_self, true_and, and_true]; done))
            refine ⟨k + 1, ⟨hlt, allN_next hk.2 ?_⟩, by omega, svInt (wrapS hlt (by omega))⟩
            rw [segOk, gget hlt, hin, Bool.true_and, segNew]
            refine decide_eq_true fun i hi => ?_
            rw [gget hlt]; exact hj.2 i (by omega)
      · have hge := ge_of_dec hd
        repeat' first | refine T_seq_region rfl ?_ | refine T_region rfl ?_ | refine T_ret ?_ | refine T_block ?_ | refine T_skip ?_ | refine T_exit ?_ | (simp (maxSteps := 2000000) only [go_sem, Nat.reduceAdd, Nat.reduceMul, Nat.reduceBEq, Nat.reduceLeDiff, Nat.reduceLT, Nat.reduceEqDiff]; try rfl) | refine T_seq ?_ | (refine And.intro ?_ ?_; focus (intros; simp_all only [Bool.or_eq_false_iff, Bool.or_eq_true, Bool.and_eq_true, and_self, true_and, and_true]; done))
        rw [allN_done hge hk.2]
end Go.Proofs.Ytfbdafdbinbeaaa
