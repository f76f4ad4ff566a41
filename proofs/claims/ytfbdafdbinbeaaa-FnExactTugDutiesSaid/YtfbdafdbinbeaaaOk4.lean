/- What functions of the given program compute, each as a contract over what its arguments read as. No condition beside those that each theorem states. -/
import Derived.Test.YtfbdafdbinbeaaaOk3
set_option linter.unusedVariables false
set_option linter.unusedSimpArgs false
namespace Go.Proofs.Ytfbdafdbinbeaaa
open Go Go.SL
set_option maxHeartbeats 1000000

def dH : DShip := ⟨ByteArray.empty, 0, 0, 0, 0, false⟩
theorem hget {l : List DShip} {i : Nat} (hi : i < l.length) : l.getD i dH = l[i] := by simp [List.getD_eq_getElem?_getD, hi]
def F_ShipNamed (l : List DShip) (n : ByteArray) : Int := F_find (fun p => decide (p.name = n)) l
def F_ShipOk (s : DShip) : Bool := F_IsName s.name && In s.length 10 400 && In s.draught 100 2000 && In s.line 0 3 && In s.tugs 0 4
def shOk (l : List DShip) (i : Nat) : Bool := F_ShipOk (l.getD i dH) && decide (F_ShipNamed l (l.getD i dH).name = (i : Int))
def F_FleetOk (l : List DShip) : Bool := decide (l.length ≤ 6) && decide (∀ i, i < l.length → shOk l i = true)
def F_RegimeOk (r : DRegime) : Bool := In r.gap 0 60
def F_table (l : List Int) : Bool := decide (l.length = 64) && l.all (fun n => In n 0 240)
def F_CrewOk (w : PCrew) : Bool := In w.tugs 0 12 && In w.pilots 0 12 && (In w.rest 0 2880 && F_table w.moves)
def F_HarbourOk (x : PHarbour) : Bool := F_ForecastOk x.forecast && F_ChartOk x.chart && F_FleetOk x.fleet && F_RegimeOk x.regime && F_CrewOk x.crew

theorem spec_ShipNamed_fn (c : Sl DShip) (n : ByteArray) (h : Hp) (hp : c.Ok h) : Ct Try.prog 141 [c.val, .string n] h fun v h' => v = .int .i64 (F_ShipNamed c.l n) ∧ h' = h := by
  have hl := hp.max
  refine Ct_of_T (fun A W => by simp) Try.func141 rfl rfl (by simp) fun W0 => ?_
  repeat' first | refine T_seq_region rfl ?_ | refine T_region rfl ?_ | refine T_ret ?_ | refine T_block ?_ | refine T_skip ?_ | refine T_exit ?_ | (simp (maxSteps := 2000000) only [go_sem, Nat.reduceAdd, Nat.reduceMul, Nat.reduceBEq, Nat.reduceLeDiff, Nat.reduceLT, Nat.reduceEqDiff]; try rfl) | refine T_seq ?_ | (refine And.intro ?_ ?_; focus (intros; simp_all only [Bool.or_eq_false_iff, Bool.or_eq_true, Bool.and_eq_true, and_self, true_and, and_true]; done))
  refine T_loop (ι := Nat) (fun k => ⟨[(1, true, .c (.v (.string n))), (7, true, .c (.v c.val)), (8, true, .c (.v (.int .i64 c.l.length))), (9, true, .c (.v (.int .i64 k)))], [], h, 1⟩) (fun k => k ≤ c.l.length ∧ ∀ i (hi : i < c.l.length), i < k → (decide (c.l[i].name = n)) = false) (fun k => c.l.length - k) 0 ⟨Nat.zero_le _, fun i _ hi => absurd hi (Nat.not_lt_zero _)⟩ ?_ ?_
  · simp (maxSteps := 2000000) only [go_sem, Nat.reduceAdd, Nat.reduceMul, Nat.reduceBEq, Nat.reduceLeDiff, Nat.reduceLT, Nat.reduceEqDiff]
    first | exact rfl | exact ⟨rfl, rfl⟩ | exact ⟨rfl, rfl, rfl⟩ | exact ⟨rfl, rfl, rfl, rfl⟩ | exact ⟨rfl, rfl, rfl, rfl, rfl⟩
  intro k hk
  repeat' first | refine T_seq_region rfl ?_ | refine T_region rfl ?_ | refine T_ret ?_ | refine T_block ?_ | refine T_skip ?_ | refine T_exit ?_ | (simp (maxSteps := 2000000) only [go_sem, Nat.reduceAdd, Nat.reduceMul, Nat.reduceBEq, Nat.reduceLeDiff, Nat.reduceLT, Nat.reduceEqDiff]; try rfl) | refine T_seq ?_ | (refine And.intro ?_ ?_; focus (intros; simp_all only [Bool.or_eq_false_iff, Bool.or_eq_true, Bool.and_eq_true, and_self, true_and, and_true]; done))
  refine T_cond rfl (fun hd => ?_) (fun hd => ?_)
  · have hlt := lt_of_dec hd
    repeat' first | refine T_seq_region rfl ?_ | refine T_region rfl ?_ | refine T_ret ?_ | refine T_block ?_ | refine T_skip ?_ | refine T_exit ?_ | (simp (maxSteps := 2000000) only [go_sem, Nat.reduceAdd, Nat.reduceMul, Nat.reduceBEq, Nat.reduceLeDiff, Nat.reduceLT, Nat.reduceEqDiff, at_DShip hp hlt, hp.some hlt, hlt, Int.toNat_natCast]; try rfl) | refine T_seq ?_ | (refine And.intro ?_ ?_; focus (intros; simp_all only [Bool.or_eq_false_iff, Bool.or_eq_true, Bool.and_eq_true, and_self, true_and, and_true]; done))
    refine T_cond rfl (fun hq => ?_) (fun hq => ?_)
    · repeat' first | refine T_seq_region rfl ?_ | refine T_region rfl ?_ | refine T_ret ?_ | refine T_block ?_ | refine T_skip ?_ | refine T_exit ?_ | (simp (maxSteps := 2000000) only [go_sem, Nat.reduceAdd, Nat.reduceMul, Nat.reduceBEq, Nat.reduceLeDiff, Nat.reduceLT, Nat.reduceEqDiff]; try rfl) | refine T_seq ?_ | (refine And.intro ?_ ?_; focus (intros; simp_all only [Bool.or_eq_false_iff, Bool.or_eq_true, Bool.and_eq_true, and_self, true_and, and_true]; done))
      rw [F_ShipNamed, find_hit hlt hq hk.2]
    · repeat' first | refine T_seq_region rfl ?_ | refine T_region rfl ?_ | refine T_ret ?_ | refine T_block ?_ | refine T_skip ?_ | refine T_exit ?_ | (simp (maxSteps := 2000000) only [go_sem, Nat.reduceAdd, Nat.reduceMul, Nat.reduceBEq, Nat.reduceLeDiff, Nat.reduceLT, Nat.reduceEqDiff]; try rfl) | refine T_seq ?_ | (refine And.intro ?_ ?_; focus (intros; simp_all only [Bool.or_eq_false_iff, Bool.or_eq_true, Bool.and_eq_true, and_self, true_and, and_true]; done))
      refine ⟨k + 1, ⟨hlt, fun i hi hik => ?_⟩, by omega, svInt (wrapS hlt (by omega))⟩
      rcases Nat.lt_succ_iff_lt_or_eq.1 hik with hik | rfl
      · exact hk.2 i hi hik
      · exact hq
  · have hge := ge_of_dec hd
    repeat' first | refine T_seq_region rfl ?_ | refine T_region rfl ?_ | refine T_ret ?_ | refine T_block ?_ | refine T_skip ?_ | refine T_exit ?_ | (simp (maxSteps := 2000000) only [go_sem, Nat.reduceAdd, Nat.reduceMul, Nat.reduceBEq, Nat.reduceLeDiff, Nat.reduceLT, Nat.reduceEqDiff]; try rfl) | refine T_seq ?_ | (refine And.intro ?_ ?_; focus (intros; simp_all only [Bool.or_eq_false_iff, Bool.or_eq_true, Bool.and_eq_true, and_self, true_and, and_true]; done))
    rw [F_ShipNamed, find_none (fun i hi => hk.2 i hi (by omega))]
theorem spec_ShipOk_fn (s : DShip) (h : Hp) (hs : Enc.ok h s) : Ct Try.prog 140 [s.v] h fun v h' => v = .bool (F_ShipOk s) ∧ h' = h := by
  refine Ct_of_T (fun A W => by simp) Try.func140 rfl rfl (by simp) fun W0 => ?_
  repeat' first | refine T_seq_region rfl ?_ | refine T_region rfl ?_ | refine T_ret ?_ | refine T_block ?_ | refine T_skip ?_ | refine T_exit ?_ | refine vfn_val (fun _ => spec_IsName_fn _ _ hs.1) ?_ | refine vfn_val (fun _ => l01In_fn _ _ _ _) ?_ | (simp (maxSteps := 2000000) only [go_sem, Nat.reduceAdd, Nat.reduceMul, Nat.reduceBEq, Nat.reduceLeDiff, Nat.reduceLT, Nat.reduceEqDiff]; try rfl) | refine T_seq ?_ | (refine And.intro ?_ ?_; focus (intros; simp_all only [Bool.or_eq_false_iff, Bool.or_eq_true, Bool.and_eq_true, and_self, true_and, and_true]; done))
  skip
  skip
theorem spec_FleetOk_fn (c : Sl DShip) (h : Hp) (hp : c.Ok h) : Ct Try.prog 103 [c.val] h fun v h' => v = .bool (F_FleetOk c.l) ∧ h' = h := by
  have hl := hp.max
  rw [F_FleetOk]
  refine Ct_of_T (fun A W => by simp) Try.func103 rfl rfl (by simp) fun W0 => ?_
  repeat' first | refine T_seq_region rfl ?_ | refine T_region rfl ?_ | refine T_ret ?_ | refine T_block ?_ | refine T_skip ?_ | refine T_exit ?_ | (simp (maxSteps := 2000000) only [go_sem, Nat.reduceAdd, Nat.reduceMul, Nat.reduceBEq, Nat.reduceLeDiff, Nat.reduceLT, Nat.reduceEqDiff]; try rfl) | refine T_seq ?_ | (refine And.intro ?_ ?_; focus (intros; simp_all only [Bool.or_eq_false_iff, Bool.or_eq_true, Bool.and_eq_true, and_self, true_and, and_true]; done))
  refine T_cond rfl (fun hc => ?_) (fun hc => ?_)
  · repeat' first | refine T_seq_region rfl ?_ | refine T_region rfl ?_ | refine T_ret ?_ | refine T_block ?_ | refine T_skip ?_ | refine T_exit ?_ | (simp (maxSteps := 2000000) only [go_sem, Nat.reduceAdd, Nat.reduceMul, Nat.reduceBEq, Nat.reduceLeDiff, Nat.reduceLT, Nat.reduceEqDiff]; try rfl) | refine T_seq ?_ | (refine And.intro ?_ ?_; focus (intros; simp_all only [Bool.or_eq_false_iff, Bool.or_eq_true, Bool.and_eq_true, and_self, true_and, and_true]; done))
    rw [decide_eq_false (by have := of_decide_eq_true hc; omega)]; rfl
  rw [decide_eq_true (show c.l.length ≤ 6 by have := of_decide_eq_false hc; omega), Bool.true_and]
  repeat' first | refine T_seq_region rfl ?_ | refine T_region rfl ?_ | refine T_ret ?_ | refine T_block ?_ | refine T_skip ?_ | refine T_exit ?_ | (simp (maxSteps := 2000000) only [go_sem, Nat.reduceAdd, Nat.reduceMul, Nat.reduceBEq, Nat.reduceLeDiff, Nat.reduceLT, Nat.reduceEqDiff]; try rfl) | refine T_seq ?_ | (refine And.intro ?_ ?_; focus (intros; simp_all only [Bool.or_eq_false_iff, Bool.or_eq_true, Bool.and_eq_true, and_self, true_and, and_true]; done))
  refine T_loop (ι := Nat) (fun k => ⟨[(0, true, .c (.v c.val)), (8, true, .c (.v c.val)), (9, true, .c (.v (.int .i64 c.l.length))), (10, true, .c (.v (.int .i64 k)))], [], h, 0⟩) (fun k => k ≤ c.l.length ∧ ∀ i, i < k → shOk c.l i = true) (fun k => c.l.length - k) 0 ⟨Nat.zero_le _, allN_zero⟩ ?_ ?_
  · simp (maxSteps := 2000000) only [go_sem, Nat.reduceAdd, Nat.reduceMul, Nat.reduceBEq, Nat.reduceLeDiff, Nat.reduceLT, Nat.reduceEqDiff]
    first | exact rfl | exact ⟨rfl, rfl⟩ | exact ⟨rfl, rfl, rfl⟩ | exact ⟨rfl, rfl, rfl, rfl⟩ | exact ⟨rfl, rfl, rfl, rfl, rfl⟩
  intro k hk
  repeat' first | refine T_seq_region rfl ?_ | refine T_region rfl ?_ | refine T_ret ?_ | refine T_block ?_ | refine T_skip ?_ | refine T_exit ?_ | (simp (maxSteps := 2000000) only [go_sem, Nat.reduceAdd, Nat.reduceMul, Nat.reduceBEq, Nat.reduceLeDiff, Nat.reduceLT, Nat.reduceEqDiff]; try rfl) | refine T_seq ?_ | (refine And.intro ?_ ?_; focus (intros; simp_all only [Bool.or_eq_false_iff, Bool.or_eq_true, Bool.and_eq_true, and_self, true_and, and_true]; done))
  refine T_cond rfl (fun hd => ?_) (fun hd => ?_)
  · have hlt := lt_of_dec hd
    repeat' first | refine T_seq_region rfl ?_ | refine T_region rfl ?_ | refine T_ret ?_ | refine T_block ?_ | refine T_skip ?_ | refine T_exit ?_ | refine vfn_val (fun _ => spec_ShipOk_fn _ _ (hp.el hlt)) ?_ | refine vfn_val (fun _ => spec_ShipNamed_fn c _ _ hp) ?_ | (simp (maxSteps := 2000000) only [go_sem, Nat.reduceAdd, Nat.reduceMul, Nat.reduceBEq, Nat.reduceLeDiff, Nat.reduceLT, Nat.reduceEqDiff, at_DShip hp hlt, hp.some hlt, hlt, Int.toNat_natCast]; try rfl) | refine T_seq ?_ | (refine And.intro ?_ ?_; focus (intros; simp_all only [Bool.or_eq_false_iff, Bool.or_eq_true, Bool.and_eq_true, and_self, true_and, and_true]; done))
    refine T_cond rfl (fun hq => ?_) (fun hq => ?_)
    · repeat' first | refine T_seq_region rfl ?_ | refine T_region rfl ?_ | refine T_ret ?_ | refine T_block ?_ | refine T_skip ?_ | refine T_exit ?_ | (simp (maxSteps := 2000000) only [go_sem, Nat.reduceAdd, Nat.reduceMul, Nat.reduceBEq, Nat.reduceLeDiff, Nat.reduceLT, Nat.reduceEqDiff]; try rfl) | refine T_seq ?_ | (refine And.intro ?_ ?_; focus (intros; simp_all only [Bool.or_eq_false_iff, Bool.or_eq_true, Bool.and_eq_true, and_self, true_and, and_true]; done))
      rw [allN_false hlt ?_]
      rw [shOk, hget hlt]
      rcases (Bool.or_eq_true _ _).mp hq with h1 | h1
      · rw [Bool.not_eq_true'] at h1; rw [h1]; rfl
      · rw [decide_eq_false (ne_of_bne h1), Bool.and_false]
    · obtain ⟨h1, h2⟩ := Bool.or_eq_false_iff.1 hq
      rw [Bool.not_eq_false'] at h1
      repeat' first | refine T_seq_region rfl ?_ | refine T_region rfl ?_ | refine T_ret ?_ | refine T_block ?_ | refine T_skip ?_ | refine T_exit ?_ | (simp (maxSteps := 2000000) only [go_sem, Nat.reduceAdd, Nat.reduceMul, Nat.reduceBEq, Nat.reduceLeDiff, Nat.reduceLT, Nat.reduceEqDiff]; try rfl) | refine T_seq ?_ | (refine And.intro ?_ ?_; focus (intros; simp_all only [Bool.or_eq_false_iff, Bool.or_eq_true, Bool.and_eq_true, and_self, true_and, and_true]; done))
      exact ⟨k + 1, ⟨hlt, allN_next hk.2 (by rw [shOk, hget hlt, h1, decide_eq_true (eq_of_bne h2)]; rfl)⟩, by omega, svInt (wrapS hlt (by omega))⟩
  · have hge := ge_of_dec hd
    repeat' first | refine T_seq_region rfl ?_ | refine T_region rfl ?_ | refine T_ret ?_ | refine T_block ?_ | refine T_skip ?_ | refine T_exit ?_ | (simp (maxSteps := 2000000) only [go_sem, Nat.reduceAdd, Nat.reduceMul, Nat.reduceBEq, Nat.reduceLeDiff, Nat.reduceLT, Nat.reduceEqDiff]; try rfl) | refine T_seq ?_ | (refine And.intro ?_ ?_; focus (intros; simp_all only [Bool.or_eq_false_iff, Bool.or_eq_true, Bool.and_eq_true, and_self, true_and, and_true]; done))
    rw [allN_done hge hk.2]
theorem spec_RegimeOk_fn (s : DRegime) (h : Hp) : Ct Try.prog 104 [s.v] h fun v h' => v = .bool (F_RegimeOk s) ∧ h' = h := by
  refine Ct_of_T (fun A W => by simp) Try.func104 rfl rfl (by simp) fun W0 => ?_
  repeat' first | refine T_seq_region rfl ?_ | refine T_region rfl ?_ | refine T_ret ?_ | refine T_block ?_ | refine T_skip ?_ | refine T_exit ?_ | refine vfn_val (fun _ => l01In_fn _ _ _ _) ?_ | (simp (maxSteps := 2000000) only [go_sem, Nat.reduceAdd, Nat.reduceMul, Nat.reduceBEq, Nat.reduceLeDiff, Nat.reduceLT, Nat.reduceEqDiff]; try rfl) | refine T_seq ?_ | (refine And.intro ?_ ?_; focus (intros; simp_all only [Bool.or_eq_false_iff, Bool.or_eq_true, Bool.and_eq_true, and_self, true_and, and_true]; done))

theorem impl_ShipNamed_fn (c : Sl DShip) (n : ByteArray) (h : Hp) (hp : c.Ok h) : Ct Try.prog 152 [c.val, .string n] h fun v h' => v = .int .i64 (F_ShipNamed c.l n) ∧ h' = h := by
  have hl := hp.max
  refine Ct_of_T (fun A W => by simp) Try.func152 rfl rfl (by simp) fun W0 => ?_
  repeat' first | refine T_seq_region rfl ?_ | refine T_region rfl ?_ | refine T_ret ?_ | refine T_block ?_ | refine T_skip ?_ | refine T_exit ?_ | (simp (maxSteps := 2000000) only [go_sem, Nat.reduceAdd, Nat.reduceMul, Nat.reduceBEq, Nat.reduceLeDiff, Nat.reduceLT, Nat.reduceEqDiff]; try rfl) | refine T_seq ?_ | (refine And.intro ?_ ?_; focus (intros; simp_all only [Bool.or_eq_false_iff, Bool.or_eq_true, Bool.and_eq_true, and_self, true_and, and_true]; done))
  refine T_loop (ι := Nat) (fun k => ⟨[(1, true, .c (.v (.string n))), (7, true, .c (.v c.val)), (8, true, .c (.v (.int .i64 c.l.length))), (9, true, .c (.v (.int .i64 k)))], [], h, 1⟩) (fun k => k ≤ c.l.length ∧ ∀ i (hi : i < c.l.length), i < k → (decide (c.l[i].name = n)) = false) (fun k => c.l.length - k) 0 ⟨Nat.zero_le _, fun i _ hi => absurd hi (Nat.not_lt_zero _)⟩ ?_ ?_
  · simp (maxSteps := 2000000) only [go_sem, Nat.reduceAdd, Nat.reduceMul, Nat.reduceBEq, Nat.reduceLeDiff, Nat.reduceLT, Nat.reduceEqDiff]
    first | exact rfl | exact ⟨rfl, rfl⟩ | exact ⟨rfl, rfl, rfl⟩ | exact ⟨rfl, rfl, rfl, rfl⟩ | exact ⟨rfl, rfl, rfl, rfl, rfl⟩
  intro k hk
  repeat' first | refine T_seq_region rfl ?_ | refine T_region rfl ?_ | refine T_ret ?_ | refine T_block ?_ | refine T_skip ?_ | refine T_exit ?_ | (simp (maxSteps := 2000000) only [go_sem, Nat.reduceAdd, Nat.reduceMul, Nat.reduceBEq, Nat.reduceLeDiff, Nat.reduceLT, Nat.reduceEqDiff]; try rfl) | refine T_seq ?_ | (refine And.intro ?_ ?_; focus (intros; simp_all only [Bool.or_eq_false_iff, Bool.or_eq_true, Bool.and_eq_true, and_self, true_and, and_true]; done))
  refine T_cond rfl (fun hd => ?_) (fun hd => ?_)
  · have hlt := lt_of_dec hd
    repeat' first | refine T_seq_region rfl ?_ | refine T_region rfl ?_ | refine T_ret ?_ | refine T_block ?_ | refine T_skip ?_ | refine T_exit ?_ | (simp (maxSteps := 2000000) only [go_sem, Nat.reduceAdd, Nat.reduceMul, Nat.reduceBEq, Nat.reduceLeDiff, Nat.reduceLT, Nat.reduceEqDiff, at_DShip hp hlt, hp.some hlt, hlt, Int.toNat_natCast]; try rfl) | refine T_seq ?_ | (refine And.intro ?_ ?_; focus (intros; simp_all only [Bool.or_eq_false_iff, Bool.or_eq_true, Bool.and_eq_true, and_self, true_and, and_true]; done))
    refine T_cond rfl (fun hq => ?_) (fun hq => ?_)
    · repeat' first | refine T_seq_region rfl ?_ | refine T_region rfl ?_ | refine T_ret ?_ | refine T_block ?_ | refine T_skip ?_ | refine T_exit ?_ | (simp (maxSteps := 2000000) only [go_sem, Nat.reduceAdd, Nat.reduceMul, Nat.reduceBEq, Nat.reduceLeDiff, Nat.reduceLT, Nat.reduceEqDiff]; try rfl) | refine T_seq ?_ | (refine And.intro ?_ ?_; focus (intros; simp_all only [Bool.or_eq_false_iff, Bool.or_eq_true, Bool.and_eq_true, and_self, true_and, and_true]; done))
      rw [F_ShipNamed, find_hit hlt hq hk.2]
    · repeat' first | refine T_seq_region rfl ?_ | refine T_region rfl ?_ | refine T_ret ?_ | refine T_block ?_ | refine T_skip ?_ | refine T_exit ?_ | (simp (maxSteps := 2000000) only [go_sem, Nat.reduceAdd, Nat.reduceMul, Nat.reduceBEq, Nat.reduceLeDiff, Nat.reduceLT, Nat.reduceEqDiff]; try rfl) | refine T_seq ?_ | (refine And.intro ?_ ?_; focus (intros; simp_all only [Bool.or_eq_false_iff, Bool.or_eq_true, Bool.and_eq_true, and_self, true_and, and_true]; done))
      refine ⟨k + 1, ⟨hlt, fun i hi hik => ?_⟩, by omega, svInt (wrapS hlt (by omega))⟩
      rcases Nat.lt_succ_iff_lt_or_eq.1 hik with hik | rfl
      · exact hk.2 i hi hik
      · exact hq
  · have hge := ge_of_dec hd
    repeat' first | refine T_seq_region rfl ?_ | refine T_region rfl ?_ | refine T_ret ?_ | refine T_block ?_ | refine T_skip ?_ | refine T_exit ?_ | (simp (maxSteps := 2000000) only [go_sem, Nat.reduceAdd, Nat.reduceMul, Nat.reduceBEq, Nat.reduceLeDiff, Nat.reduceLT, Nat.reduceEqDiff]; try rfl) | refine T_seq ?_ | (refine And.intro ?_ ?_; focus (intros; simp_all only [Bool.or_eq_false_iff, Bool.or_eq_true, Bool.and_eq_true, and_self, true_and, and_true]; done))
    rw [F_ShipNamed, find_none (fun i hi => hk.2 i hi (by omega))]
theorem impl_ShipOk_fn (s : DShip) (h : Hp) (hs : Enc.ok h s) : Ct Try.prog 151 [s.v] h fun v h' => v = .bool (F_ShipOk s) ∧ h' = h := by
  refine Ct_of_T (fun A W => by simp) Try.func151 rfl rfl (by simp) fun W0 => ?_
  repeat' first | refine T_seq_region rfl ?_ | refine T_region rfl ?_ | refine T_ret ?_ | refine T_block ?_ | refine T_skip ?_ | refine T_exit ?_ | refine vfn_val (fun _ => impl_IsName_fn _ _ hs.1) ?_ | refine vfn_val (fun _ => within_fn _ _ _ _) ?_ | refine vfn_val (fun _ => isIndex_fn _ _ _) ?_ | (simp (maxSteps := 2000000) only [go_sem, Nat.reduceAdd, Nat.reduceMul, Nat.reduceBEq, Nat.reduceLeDiff, Nat.reduceLT, Nat.reduceEqDiff]; try rfl) | refine T_seq ?_ | (refine And.intro ?_ ?_; focus (intros; simp_all only [Bool.or_eq_false_iff, Bool.or_eq_true, Bool.and_eq_true, and_self, true_and, and_true]; done))
  congr 1; rw [Bool.eq_iff_iff]; simp only [F_ShipOk, In, Bool.and_eq_true, Bool.or_eq_true, Bool.not_eq_true', decide_eq_true_eq, decide_eq_false_iff_not, beq_iff_eq, and_assoc]
  constructor <;> intro hh <;> (refine ⟨hh.1, ?_⟩; omega)
theorem impl_FleetOk_fn (c : Sl DShip) (h : Hp) (hp : c.Ok h) : Ct Try.prog 111 [c.val] h fun v h' => v = .bool (F_FleetOk c.l) ∧ h' = h := by
  have hl := hp.max
  rw [F_FleetOk]
  refine Ct_of_T (fun A W => by simp) Try.func111 rfl rfl (by simp) fun W0 => ?_
  repeat' first | refine T_seq_region rfl ?_ | refine T_region rfl ?_ | refine T_ret ?_ | refine T_block ?_ | refine T_skip ?_ | refine T_exit ?_ | (simp (maxSteps := 2000000) only [go_sem, Nat.reduceAdd, Nat.reduceMul, Nat.reduceBEq, Nat.reduceLeDiff, Nat.reduceLT, Nat.reduceEqDiff]; try rfl) | refine T_seq ?_ | (refine And.intro ?_ ?_; focus (intros; simp_all only [Bool.or_eq_false_iff, Bool.or_eq_true, Bool.and_eq_true, and_self, true_and, and_true]; done))
  refine T_cond rfl (fun hc => ?_) (fun hc => ?_)
  · repeat' first | refine T_seq_region rfl ?_ | refine T_region rfl ?_ | refine T_ret ?_ | refine T_block ?_ | refine T_skip ?_ | refine T_exit ?_ | (simp (maxSteps := 2000000) only [go_sem, Nat.reduceAdd, Nat.reduceMul, Nat.reduceBEq, Nat.reduceLeDiff, Nat.reduceLT, Nat.reduceEqDiff]; try rfl) | refine T_seq ?_ | (refine And.intro ?_ ?_; focus (intros; simp_all only [Bool.or_eq_false_iff, Bool.or_eq_true, Bool.and_eq_true, and_self, true_and, and_true]; done))
    rw [decide_eq_false (by have := of_decide_eq_true hc; omega)]; rfl
  rw [decide_eq_true (show c.l.length ≤ 6 by have := of_decide_eq_false hc; omega), Bool.true_and]
  repeat' first | refine T_seq_region rfl ?_ | refine T_region rfl ?_ | refine T_ret ?_ | refine T_block ?_ | refine T_skip ?_ | refine T_exit ?_ | (simp (maxSteps := 2000000) only [go_sem, Nat.reduceAdd, Nat.reduceMul, Nat.reduceBEq, Nat.reduceLeDiff, Nat.reduceLT, Nat.reduceEqDiff]; try rfl) | refine T_seq ?_ | (refine And.intro ?_ ?_; focus (intros; simp_all only [Bool.or_eq_false_iff, Bool.or_eq_true, Bool.and_eq_true, and_self, true_and, and_true]; done))
  refine T_loop (ι := Nat) (fun k => ⟨[(0, true, .c (.v c.val)), (8, true, .c (.v c.val)), (9, true, .c (.v (.int .i64 c.l.length))), (10, true, .c (.v (.int .i64 k)))], [], h, 0⟩) (fun k => k ≤ c.l.length ∧ ∀ i, i < k → shOk c.l i = true) (fun k => c.l.length - k) 0 ⟨Nat.zero_le _, allN_zero⟩ ?_ ?_
  · simp (maxSteps := 2000000) only [go_sem, Nat.reduceAdd, Nat.reduceMul, Nat.reduceBEq, Nat.reduceLeDiff, Nat.reduceLT, Nat.reduceEqDiff]
    first | exact rfl | exact ⟨rfl, rfl⟩ | exact ⟨rfl, rfl, rfl⟩ | exact ⟨rfl, rfl, rfl, rfl⟩ | exact ⟨rfl, rfl, rfl, rfl, rfl⟩
  intro k hk
  repeat' first | refine T_seq_region rfl ?_ | refine T_region rfl ?_ | refine T_ret ?_ | refine T_block ?_ | refine T_skip ?_ | refine T_exit ?_ | (simp (maxSteps := 2000000) only [go_sem, Nat.reduceAdd, Nat.reduceMul, Nat.reduceBEq, Nat.reduceLeDiff, Nat.reduceLT, Nat.reduceEqDiff]; try rfl) | refine T_seq ?_ | (refine And.intro ?_ ?_; focus (intros; simp_all only [Bool.or_eq_false_iff, Bool.or_eq_true, Bool.and_eq_true, and_self, true_and, and_true]; done))
  refine T_cond rfl (fun hd => ?_) (fun hd => ?_)
  · have hlt := lt_of_dec hd
    repeat' first | refine T_seq_region rfl ?_ | refine T_region rfl ?_ | refine T_ret ?_ | refine T_block ?_ | refine T_skip ?_ | refine T_exit ?_ | refine vfn_val (fun _ => impl_ShipOk_fn _ _ (hp.el hlt)) ?_ | refine vfn_val (fun _ => impl_ShipNamed_fn c _ _ hp) ?_ | (simp (maxSteps := 2000000) only [go_sem, Nat.reduceAdd, Nat.reduceMul, Nat.reduceBEq, Nat.reduceLeDiff, Nat.reduceLT, Nat.reduceEqDiff, at_DShip hp hlt, hp.some hlt, hlt, Int.toNat_natCast]; try rfl) | refine T_seq ?_ | (refine And.intro ?_ ?_; focus (intros; simp_all only [Bool.or_eq_false_iff, Bool.or_eq_true, Bool.and_eq_true, and_self, true_and, and_true]; done))
    refine T_cond rfl (fun hq => ?_) (fun hq => ?_)
    · repeat' first | refine T_seq_region rfl ?_ | refine T_region rfl ?_ | refine T_ret ?_ | refine T_block ?_ | refine T_skip ?_ | refine T_exit ?_ | (simp (maxSteps := 2000000) only [go_sem, Nat.reduceAdd, Nat.reduceMul, Nat.reduceBEq, Nat.reduceLeDiff, Nat.reduceLT, Nat.reduceEqDiff]; try rfl) | refine T_seq ?_ | (refine And.intro ?_ ?_; focus (intros; simp_all only [Bool.or_eq_false_iff, Bool.or_eq_true, Bool.and_eq_true, and_self, true_and, and_true]; done))
      rw [allN_false hlt ?_]
      rw [shOk, hget hlt]
      rcases (Bool.or_eq_true _ _).mp hq with h1 | h1
      · rw [Bool.not_eq_true'] at h1; rw [h1]; rfl
      · rw [decide_eq_false (ne_of_bne h1), Bool.and_false]
    · obtain ⟨h1, h2⟩ := Bool.or_eq_false_iff.1 hq
      rw [Bool.not_eq_false'] at h1
      repeat' first | refine T_seq_region rfl ?_ | refine T_region rfl ?_ | refine T_ret ?_ | refine T_block ?_ | refine T_skip ?_ | refine T_exit ?_ | (simp (maxSteps := 2000000) only [go_sem, Nat.reduceAdd, Nat.reduceMul, Nat.reduceBEq, Nat.reduceLeDiff, Nat.reduceLT, Nat.reduceEqDiff]; try rfl) | refine T_seq ?_ | (refine And.intro ?_ ?_; focus (intros; simp_all only [Bool.or_eq_false_iff, Bool.or_eq_true, Bool.and_eq_true, and_self, true_and, and_true]; done))
      exact ⟨k + 1, ⟨hlt, allN_next hk.2 (by rw [shOk, hget hlt, h1, decide_eq_true (eq_of_bne h2)]; rfl)⟩, by omega, svInt (wrapS hlt (by omega))⟩
  · have hge := ge_of_dec hd
    repeat' first | refine T_seq_region rfl ?_ | refine T_region rfl ?_ | refine T_ret ?_ | refine T_block ?_ | refine T_skip ?_ | refine T_exit ?_ | (simp (maxSteps := 2000000) only [go_sem, Nat.reduceAdd, Nat.reduceMul, Nat.reduceBEq, Nat.reduceLeDiff, Nat.reduceLT, Nat.reduceEqDiff]; try rfl) | refine T_seq ?_ | (refine And.intro ?_ ?_; focus (intros; simp_all only [Bool.or_eq_false_iff, Bool.or_eq_true, Bool.and_eq_true, and_self, true_and, and_true]; done))
    rw [allN_done hge hk.2]
theorem impl_RegimeOk_fn (s : DRegime) (h : Hp) : Ct Try.prog 112 [s.v] h fun v h' => v = .bool (F_RegimeOk s) ∧ h' = h := by
  refine Ct_of_T (fun A W => by simp) Try.func112 rfl rfl (by simp) fun W0 => ?_
  repeat' first | refine T_seq_region rfl ?_ | refine T_region rfl ?_ | refine T_ret ?_ | refine T_block ?_ | refine T_skip ?_ | refine T_exit ?_ | refine vfn_val (fun _ => within_fn _ _ _ _) ?_ | (simp (maxSteps := 2000000) only [go_sem, Nat.reduceAdd, Nat.reduceMul, Nat.reduceBEq, Nat.reduceLeDiff, Nat.reduceLT, Nat.reduceEqDiff]; try rfl) | refine T_seq ?_ | (refine And.intro ?_ ?_; focus (intros; simp_all only [Bool.or_eq_false_iff, Bool.or_eq_true, Bool.and_eq_true, and_self, true_and, and_true]; done))

theorem tbl_step_bad {l : List Int} {k : Nat} (hk : k < l.length) (h : In l[k] 0 240 = false) : F_table l = false := by rw [F_table, all_take_false (p := fun n => In n 0 240) hk h, Bool.and_false]
theorem tbl_end {l : List Int} {k : Nat} (h64 : l.length = 64) (hk : l.length ≤ k) (hp : (l.take k).all (fun n => In n 0 240) = true) : F_table l = true := by
  rw [List.take_of_length_le hk] at hp
  rw [F_table, hp, decide_eq_true h64]; rfl
theorem spec_l13Table_fn (n : Int) (a : Sl Int) (h : Hp) (ha : a.Ok h) : Ct Try.prog 142 [.int .i64 n, a.val] h fun v h' => v = .bool (In n 0 2880 && F_table a.l) ∧ h' = h := by
  have hl := ha.max
  refine Ct_of_T (fun A W => by simp) Try.func142 rfl rfl (by simp) fun W0 => ?_
  repeat' first | refine T_seq_region rfl ?_ | refine T_region rfl ?_ | refine T_ret ?_ | refine T_block ?_ | refine T_skip ?_ | refine T_exit ?_ | refine vfn_val (fun _ => l01In_fn _ _ _ _) ?_ | (simp (maxSteps := 2000000) only [go_sem, Nat.reduceAdd, Nat.reduceMul, Nat.reduceBEq, Nat.reduceLeDiff, Nat.reduceLT, Nat.reduceEqDiff]; try rfl) | refine T_seq ?_ | (refine And.intro ?_ ?_; focus (intros; simp_all only [Bool.or_eq_false_iff, Bool.or_eq_true, Bool.and_eq_true, and_self, true_and, and_true]; done))
  refine T_cond rfl (fun hc => ?_) (fun hc => ?_)
  · repeat' first | refine T_seq_region rfl ?_ | refine T_region rfl ?_ | refine T_ret ?_ | refine T_block ?_ | refine T_skip ?_ | refine T_exit ?_ | (simp (maxSteps := 2000000) only [go_sem, Nat.reduceAdd, Nat.reduceMul, Nat.reduceBEq, Nat.reduceLeDiff, Nat.reduceLT, Nat.reduceEqDiff]; try rfl) | refine T_seq ?_ | (refine And.intro ?_ ?_; focus (intros; simp_all only [Bool.or_eq_false_iff, Bool.or_eq_true, Bool.and_eq_true, and_self, true_and, and_true]; done))
    congr 1
    rcases (Bool.or_eq_true _ _).mp hc with h1 | h1
    · rw [Bool.not_eq_true'] at h1; rw [In, h1]; rfl
    · rw [F_table, decide_eq_false (by have := ne_of_bne h1; omega), Bool.false_and, Bool.and_false]
  obtain ⟨h1, h2⟩ := Bool.or_eq_false_iff.1 hc
  rw [Bool.not_eq_false'] at h1
  have h64 : a.l.length = 64 := by have := eq_of_bne h2; omega
  rw [In, h1, Bool.true_and]
  repeat' first | refine T_seq_region rfl ?_ | refine T_region rfl ?_ | refine T_ret ?_ | refine T_block ?_ | refine T_skip ?_ | refine T_exit ?_ | (simp (maxSteps := 2000000) only [go_sem, Nat.reduceAdd, Nat.reduceMul, Nat.reduceBEq, Nat.reduceLeDiff, Nat.reduceLT, Nat.reduceEqDiff]; try rfl) | refine T_seq ?_ | (refine And.intro ?_ ?_; focus (intros; simp_all only [Bool.or_eq_false_iff, Bool.or_eq_true, Bool.and_eq_true, and_self, true_and, and_true]; done))
  refine T_loop (ι := Nat) (fun k => ⟨[(15, true, .c (.v a.val)), (16, true, .c (.v (.int .i64 a.l.length))), (17, true, .c (.v (.int .i64 k)))], [], h, 0⟩) (fun k => k ≤ a.l.length ∧ (a.l.take k).all (fun n => In n 0 240) = true) (fun k => a.l.length - k) 0 ⟨Nat.zero_le _, rfl⟩ ?_ ?_
  · simp (maxSteps := 2000000) only [go_sem, Nat.reduceAdd, Nat.reduceMul, Nat.reduceBEq, Nat.reduceLeDiff, Nat.reduceLT, Nat.reduceEqDiff]
    first | exact rfl | exact ⟨rfl, rfl⟩ | exact ⟨rfl, rfl, rfl⟩ | exact ⟨rfl, rfl, rfl, rfl⟩ | exact ⟨rfl, rfl, rfl, rfl, rfl⟩
  intro k hk
  repeat' first | refine T_seq_region rfl ?_ | refine T_region rfl ?_ | refine T_ret ?_ | refine T_block ?_ | refine T_skip ?_ | refine T_exit ?_ | (simp (maxSteps := 2000000) only [go_sem, Nat.reduceAdd, Nat.reduceMul, Nat.reduceBEq, Nat.reduceLeDiff, Nat.reduceLT, Nat.reduceEqDiff]; try rfl) | refine T_seq ?_ | (refine And.intro ?_ ?_; focus (intros; simp_all only [Bool.or_eq_false_iff, Bool.or_eq_true, Bool.and_eq_true, and_self, true_and, and_true]; done))
  refine T_cond rfl (fun hd => ?_) (fun hd => ?_)
  · have hlt := lt_of_dec hd
    repeat' first | refine T_seq_region rfl ?_ | refine T_region rfl ?_ | refine T_ret ?_ | refine T_block ?_ | refine T_skip ?_ | refine T_exit ?_ | refine vfn_val (fun _ => l01In_fn _ _ _ _) ?_ | (simp (maxSteps := 2000000) only [go_sem, Nat.reduceAdd, Nat.reduceMul, Nat.reduceBEq, Nat.reduceLeDiff, Nat.reduceLT, Nat.reduceEqDiff, at_Int ha hlt, ha.some hlt, hlt, Int.toNat_natCast]; try rfl) | refine T_seq ?_ | (refine And.intro ?_ ?_; focus (intros; simp_all only [Bool.or_eq_false_iff, Bool.or_eq_true, Bool.and_eq_true, and_self, true_and, and_true]; done))
    refine T_cond rfl (fun hq => ?_) (fun hq => ?_)
    · rw [Bool.not_eq_true'] at hq
      repeat' first | refine T_seq_region rfl ?_ | refine T_region rfl ?_ | refine T_ret ?_ | refine T_block ?_ | refine T_skip ?_ | refine T_exit ?_ | (simp (maxSteps := 2000000) only [go_sem, Nat.reduceAdd, Nat.reduceMul, Nat.reduceBEq, Nat.reduceLeDiff, Nat.reduceLT, Nat.reduceEqDiff]; try rfl) | refine T_seq ?_ | (refine And.intro ?_ ?_; focus (intros; simp_all only [Bool.or_eq_false_iff, Bool.or_eq_true, Bool.and_eq_true, and_self, true_and, and_true]; done))
      rw [tbl_step_bad hlt hq]
    · rw [Bool.not_eq_false'] at hq
      repeat' first | refine T_seq_region rfl ?_ | refine T_region rfl ?_ | refine T_ret ?_ | refine T_block ?_ | refine T_skip ?_ | refine T_exit ?_ | (simp (maxSteps := 2000000) only [go_sem, Nat.reduceAdd, Nat.reduceMul, Nat.reduceBEq, Nat.reduceLeDiff, Nat.reduceLT, Nat.reduceEqDiff]; try rfl) | refine T_seq ?_ | (refine And.intro ?_ ?_; focus (intros; simp_all only [Bool.or_eq_false_iff, Bool.or_eq_true, Bool.and_eq_true, and_self, true_and, and_true]; done))
      exact ⟨k + 1, ⟨hlt, all_take_next hlt hk.2 hq⟩, by omega, svInt (wrapS hlt (by omega))⟩
  · have hge := ge_of_dec hd
    repeat' first | refine T_seq_region rfl ?_ | refine T_region rfl ?_ | refine T_ret ?_ | refine T_block ?_ | refine T_skip ?_ | refine T_exit ?_ | (simp (maxSteps := 2000000) only [go_sem, Nat.reduceAdd, Nat.reduceMul, Nat.reduceBEq, Nat.reduceLeDiff, Nat.reduceLT, Nat.reduceEqDiff]; try rfl) | refine T_seq ?_ | (refine And.intro ?_ ?_; focus (intros; simp_all only [Bool.or_eq_false_iff, Bool.or_eq_true, Bool.and_eq_true, and_self, true_and, and_true]; done))
    rw [tbl_end h64 hge hk.2]
theorem impl_movesOk_fn (a : Sl Int) (h : Hp) (ha : a.Ok h) : Ct Try.prog 154 [a.val] h fun v h' => v = .bool (F_table a.l) ∧ h' = h := by
  have hl := ha.max
  refine Ct_of_T (fun A W => by simp) Try.func154 rfl rfl (by simp) fun W0 => ?_
  repeat' first | refine T_seq_region rfl ?_ | refine T_region rfl ?_ | refine T_ret ?_ | refine T_block ?_ | refine T_skip ?_ | refine T_exit ?_ | (simp (maxSteps := 2000000) only [go_sem, Nat.reduceAdd, Nat.reduceMul, Nat.reduceBEq, Nat.reduceLeDiff, Nat.reduceLT, Nat.reduceEqDiff]; try rfl) | refine T_seq ?_ | (refine And.intro ?_ ?_; focus (intros; simp_all only [Bool.or_eq_false_iff, Bool.or_eq_true, Bool.and_eq_true, and_self, true_and, and_true]; done))
  refine T_cond rfl (fun hc => ?_) (fun hc => ?_)
  · repeat' first | refine T_seq_region rfl ?_ | refine T_region rfl ?_ | refine T_ret ?_ | refine T_block ?_ | refine T_skip ?_ | refine T_exit ?_ | (simp (maxSteps := 2000000) only [go_sem, Nat.reduceAdd, Nat.reduceMul, Nat.reduceBEq, Nat.reduceLeDiff, Nat.reduceLT, Nat.reduceEqDiff]; try rfl) | refine T_seq ?_ | (refine And.intro ?_ ?_; focus (intros; simp_all only [Bool.or_eq_false_iff, Bool.or_eq_true, Bool.and_eq_true, and_self, true_and, and_true]; done))
    rw [F_table, decide_eq_false (by have := ne_of_bne hc; omega)]; rfl
  have h64 : a.l.length = 64 := by have := eq_of_bne hc; omega
  repeat' first | refine T_seq_region rfl ?_ | refine T_region rfl ?_ | refine T_ret ?_ | refine T_block ?_ | refine T_skip ?_ | refine T_exit ?_ | (simp (maxSteps := 2000000) only [go_sem, Nat.reduceAdd, Nat.reduceMul, Nat.reduceBEq, Nat.reduceLeDiff, Nat.reduceLT, Nat.reduceEqDiff]; try rfl) | refine T_seq ?_ | (refine And.intro ?_ ?_; focus (intros; simp_all only [Bool.or_eq_false_iff, Bool.or_eq_true, Bool.and_eq_true, and_self, true_and, and_true]; done))
  refine T_loop (ι := Nat) (fun k => ⟨[(8, true, .c (.v a.val)), (9, true, .c (.v (.int .i64 a.l.length))), (10, true, .c (.v (.int .i64 k)))], [], h, 0⟩) (fun k => k ≤ a.l.length ∧ (a.l.take k).all (fun n => In n 0 240) = true) (fun k => a.l.length - k) 0 ⟨Nat.zero_le _, rfl⟩ ?_ ?_
  · simp (maxSteps := 2000000) only [go_sem, Nat.reduceAdd, Nat.reduceMul, Nat.reduceBEq, Nat.reduceLeDiff, Nat.reduceLT, Nat.reduceEqDiff]
    first | exact rfl | exact ⟨rfl, rfl⟩ | exact ⟨rfl, rfl, rfl⟩ | exact ⟨rfl, rfl, rfl, rfl⟩ | exact ⟨rfl, rfl, rfl, rfl, rfl⟩
  intro k hk
  repeat' first | refine T_seq_region rfl ?_ | refine T_region rfl ?_ | refine T_ret ?_ | refine T_block ?_ | refine T_skip ?_ | refine T_exit ?_ | (simp (maxSteps := 2000000) only [go_sem, Nat.reduceAdd, Nat.reduceMul, Nat.reduceBEq, Nat.reduceLeDiff, Nat.reduceLT, Nat.reduceEqDiff]; try rfl) | refine T_seq ?_ | (refine And.intro ?_ ?_; focus (intros; simp_all only [Bool.or_eq_false_iff, Bool.or_eq_true, Bool.and_eq_true, and_self, true_and, and_true]; done))
  refine T_cond rfl (fun hd => ?_) (fun hd => ?_)
  · have hlt := lt_of_dec hd
    repeat' first | refine T_seq_region rfl ?_ | refine T_region rfl ?_ | refine T_ret ?_ | refine T_block ?_ | refine T_skip ?_ | refine T_exit ?_ | refine vfn_val (fun _ => within_fn _ _ _ _) ?_ | (simp (maxSteps := 2000000) only [go_sem, Nat.reduceAdd, Nat.reduceMul, Nat.reduceBEq, Nat.reduceLeDiff, Nat.reduceLT, Nat.reduceEqDiff, at_Int ha hlt, ha.some hlt, hlt, Int.toNat_natCast]; try rfl) | refine T_seq ?_ | (refine And.intro ?_ ?_; focus (intros; simp_all only [Bool.or_eq_false_iff, Bool.or_eq_true, Bool.and_eq_true, and_self, true_and, and_true]; done))
    refine T_cond rfl (fun hq => ?_) (fun hq => ?_)
    · rw [Bool.not_eq_true'] at hq
      repeat' first | refine T_seq_region rfl ?_ | refine T_region rfl ?_ | refine T_ret ?_ | refine T_block ?_ | refine T_skip ?_ | refine T_exit ?_ | (simp (maxSteps := 2000000) only [go_sem, Nat.reduceAdd, Nat.reduceMul, Nat.reduceBEq, Nat.reduceLeDiff, Nat.reduceLT, Nat.reduceEqDiff]; try rfl) | refine T_seq ?_ | (refine And.intro ?_ ?_; focus (intros; simp_all only [Bool.or_eq_false_iff, Bool.or_eq_true, Bool.and_eq_true, and_self, true_and, and_true]; done))
      rw [tbl_step_bad hlt hq]
    · rw [Bool.not_eq_false'] at hq
      repeat' first | refine T_seq_region rfl ?_ | refine T_region rfl ?_ | refine T_ret ?_ | refine T_block ?_ | refine T_skip ?_ | refine T_exit ?_ | (simp (maxSteps := 2000000) only [go_sem, Nat.reduceAdd, Nat.reduceMul, Nat.reduceBEq, Nat.reduceLeDiff, Nat.reduceLT, Nat.reduceEqDiff]; try rfl) | refine T_seq ?_ | (refine And.intro ?_ ?_; focus (intros; simp_all only [Bool.or_eq_false_iff, Bool.or_eq_true, Bool.and_eq_true, and_self, true_and, and_true]; done))
      exact ⟨k + 1, ⟨hlt, all_take_next hlt hk.2 hq⟩, by omega, svInt (wrapS hlt (by omega))⟩
  · have hge := ge_of_dec hd
    repeat' first | refine T_seq_region rfl ?_ | refine T_region rfl ?_ | refine T_ret ?_ | refine T_block ?_ | refine T_skip ?_ | refine T_exit ?_ | (simp (maxSteps := 2000000) only [go_sem, Nat.reduceAdd, Nat.reduceMul, Nat.reduceBEq, Nat.reduceLeDiff, Nat.reduceLT, Nat.reduceEqDiff]; try rfl) | refine T_seq ?_ | (refine And.intro ?_ ?_; focus (intros; simp_all only [Bool.or_eq_false_iff, Bool.or_eq_true, Bool.and_eq_true, and_self, true_and, and_true]; done))
    rw [tbl_end h64 hge hk.2]
theorem F_CrewOk_def (w : DCrew) : F_CrewOk (Con.con w) = (In w.tugs 0 12 && In w.pilots 0 12 && (In w.rest 0 2880 && F_table w.moves.l)) := by
  rw [F_CrewOk, show (Con.con w).moves = w.moves.l from con_ints]; rfl
theorem spec_CrewOk_fn (w : DCrew) (h : Hp) (hw : Enc.ok h w) : Ct Try.prog 105 [w.v] h fun v h' => v = .bool (F_CrewOk (Con.con w)) ∧ h' = h := by
  rw [F_CrewOk_def]
  refine Ct_of_T (fun A W => by simp) Try.func105 rfl rfl (by simp) fun W0 => ?_
  repeat' first | refine T_seq_region rfl ?_ | refine T_region rfl ?_ | refine T_ret ?_ | refine T_block ?_ | refine T_skip ?_ | refine T_exit ?_ | refine vfn_val (fun _ => l01In_fn _ _ _ _) ?_ | refine vfn_val (fun _ => spec_l13Table_fn _ _ _ hw.2.2.2) ?_ | (simp (maxSteps := 2000000) only [go_sem, Nat.reduceAdd, Nat.reduceMul, Nat.reduceBEq, Nat.reduceLeDiff, Nat.reduceLT, Nat.reduceEqDiff]; try rfl) | refine T_seq ?_ | (refine And.intro ?_ ?_; focus (intros; simp_all only [Bool.or_eq_false_iff, Bool.or_eq_true, Bool.and_eq_true, and_self, true_and, and_true]; done))
theorem impl_CrewOk_fn (w : DCrew) (h : Hp) (hw : Enc.ok h w) : Ct Try.prog 113 [w.v] h fun v h' => v = .bool (F_CrewOk (Con.con w)) ∧ h' = h := by
  rw [F_CrewOk_def]
  refine Ct_of_T (fun A W => by simp) Try.func113 rfl rfl (by simp) fun W0 => ?_
  repeat' first | refine T_seq_region rfl ?_ | refine T_region rfl ?_ | refine T_ret ?_ | refine T_block ?_ | refine T_skip ?_ | refine T_exit ?_ | refine vfn_val (fun _ => within_fn _ _ _ _) ?_ | refine vfn_val (fun _ => isMinute_fn _ _) ?_ | refine vfn_val (fun _ => impl_movesOk_fn _ _ hw.2.2.2) ?_ | (simp (maxSteps := 2000000) only [go_sem, Nat.reduceAdd, Nat.reduceMul, Nat.reduceBEq, Nat.reduceLeDiff, Nat.reduceLT, Nat.reduceEqDiff]; try rfl) | refine T_seq ?_ | (refine And.intro ?_ ?_; focus (intros; simp_all only [Bool.or_eq_false_iff, Bool.or_eq_true, Bool.and_eq_true, and_self, true_and, and_true]; done))
  congr 1; rw [Bool.eq_iff_iff]; simp only [In, Bool.and_eq_true, Bool.or_eq_true, Bool.not_eq_true', decide_eq_true_eq, decide_eq_false_iff_not, beq_iff_eq, and_assoc]
theorem F_HarbourOk_def (x : DHarbour) : F_HarbourOk (Con.con x) = (F_ForecastOk (Con.con x.forecast) && F_ChartOk (Con.con x.chart) && F_FleetOk x.fleet.l && F_RegimeOk x.regime && F_CrewOk (Con.con x.crew)) := by
  rw [F_HarbourOk, show (Con.con x).fleet = x.fleet.l from con_shipl _]; rfl

theorem spec_HarbourOk_fn (x : DHarbour) (h : Hp) (hx : Enc.ok h x) : Ct Try.prog 51 [x.v] h fun v h' => v = .bool (F_HarbourOk (Con.con x)) ∧ h' = h := by
  obtain ⟨o1, o2, o3, o4, o5⟩ := hx
  rw [F_HarbourOk_def]
  refine Ct_of_T (fun A W => by simp) Try.func51 rfl rfl (by simp) fun W0 => ?_
  repeat' first | refine T_seq_region rfl ?_ | refine T_region rfl ?_ | refine T_ret ?_ | refine T_block ?_ | refine T_skip ?_ | refine T_exit ?_ | refine vfn_val (fun _ => spec_ForecastOk_fn x.forecast _ o1) ?_ | refine vfn_val (fun _ => spec_ChartOk_fn x.chart _ o2) ?_ | refine vfn_val (fun _ => spec_FleetOk_fn _ _ o3) ?_ | refine vfn_val (fun _ => spec_RegimeOk_fn x.regime _) ?_ | refine vfn_val (fun _ => spec_CrewOk_fn x.crew _ o5) ?_ | (simp (maxSteps := 2000000) only [go_sem, Nat.reduceAdd, Nat.reduceMul, Nat.reduceBEq, Nat.reduceLeDiff, Nat.reduceLT, Nat.reduceEqDiff]; try rfl) | refine T_seq ?_ | (refine And.intro ?_ ?_; focus (intros; simp_all only [Bool.or_eq_false_iff, Bool.or_eq_true, Bool.and_eq_true, and_self, true_and, and_true]; done))

theorem impl_HarbourOk_fn (x : DHarbour) (h : Hp) (hx : Enc.ok h x) : Ct Try.prog 53 [x.v] h fun v h' => v = .bool (F_HarbourOk (Con.con x)) ∧ h' = h := by
  obtain ⟨o1, o2, o3, o4, o5⟩ := hx
  rw [F_HarbourOk_def]
  refine Ct_of_T (fun A W => by simp) Try.func53 rfl rfl (by simp) fun W0 => ?_
  repeat' first | refine T_seq_region rfl ?_ | refine T_region rfl ?_ | refine T_ret ?_ | refine T_block ?_ | refine T_skip ?_ | refine T_exit ?_ | refine vfn_val (fun _ => impl_ForecastOk_fn x.forecast _ o1) ?_ | refine vfn_val (fun _ => impl_ChartOk_fn x.chart _ o2) ?_ | refine vfn_val (fun _ => impl_FleetOk_fn _ _ o3) ?_ | refine vfn_val (fun _ => impl_RegimeOk_fn x.regime _) ?_ | refine vfn_val (fun _ => impl_CrewOk_fn x.crew _ o5) ?_ | (simp (maxSteps := 2000000) only [go_sem, Nat.reduceAdd, Nat.reduceMul, Nat.reduceBEq, Nat.reduceLeDiff, Nat.reduceLT, Nat.reduceEqDiff]; try rfl) | refine T_seq ?_ | (refine And.intro ?_ ?_; focus (intros; simp_all only [Bool.or_eq_false_iff, Bool.or_eq_true, Bool.and_eq_true, and_self, true_and, and_true]; done))
end Go.Proofs.Ytfbdafdbinbeaaa
