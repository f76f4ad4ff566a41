/- What functions of the given program compute, each as a contract over what its arguments read as. No condition beside those that each theorem states. -/
import Derived.Test.YtfbdafdbinbeaaaTy
import Derived.Test.YtfbdafdbinbeaaaSLN
import Derived.Test.YtfbdafdbinbeaaaFmt
set_option linter.unusedVariables false
set_option linter.unusedSimpArgs false
namespace Go.Proofs.Ytfbdafdbinbeaaa
open Go Go.SL
set_option maxHeartbeats 1000000
theorem markIntS_fn (s : Sl Int) (k : Int) (h : Hp) (hs : s.Ok h) (ho : Foot.own h s) (hn : (Foot.foot s).Nodup) (hk : 0 ≤ k ∧ k + (Mk.cnt s : Nat) ≤ 4611686018427387904) : Cw Try.prog 19 [s.val, .int .i64 k] h (fun b => b ∈ Foot.foot s) fun v h' => v = .int .i64 (k + (Mk.cnt s : Nat)) ∧ Enc.ok h' (Mk.put s k) ∧ Foot.own h' (Mk.put s k) := by
  have hmax := hs.max
  have hcs : Mk.cnt s = cntL s.l := rfl
  by_cases hl : s.l = []
  · refine Cw_of_T (fun A W => by simp) Try.func19 rfl rfl (by simp)  (fun b hb => Foot.dom ho b hb) fun W0 hW => ?_
    repeat' first | refine T_seq_region rfl ?_ | refine T_region rfl ?_ | refine T_ret ?_ | refine T_block ?_ | refine T_skip ?_ | refine T_exit ?_ | (simp (maxSteps := 2000000) only [go_sem, Nat.reduceAdd, Nat.reduceMul, Nat.reduceBEq, Nat.reduceLeDiff, Nat.reduceLT, Nat.reduceEqDiff]; try rfl) | refine T_seq ?_ | (refine And.intro ?_ ?_; focus (intros; simp_all only [Bool.or_eq_false_iff, Bool.or_eq_true, Bool.and_eq_true, and_self, true_and, and_true]; done))
    refine T_loop (ι := Unit) (fun _ => ⟨[(0, true, .c (.v s.val)), (1, true, .c (.v (.int .i64 k))), (5, true, .c (.v (.int .i64 0)))], [], h, 0⟩) (fun _ => True) (fun _ => 0) () trivial ?_ ?_
    · simp (maxSteps := 2000000) only [go_sem, Nat.reduceAdd, Nat.reduceMul, Nat.reduceBEq, Nat.reduceLeDiff, Nat.reduceLT, Nat.reduceEqDiff]
    rintro _ _
    repeat' first | refine T_seq_region rfl ?_ | refine T_region rfl ?_ | refine T_ret ?_ | refine T_block ?_ | refine T_skip ?_ | refine T_exit ?_ | (simp (maxSteps := 2000000) only [go_sem, Nat.reduceAdd, Nat.reduceMul, Nat.reduceBEq, Nat.reduceLeDiff, Nat.reduceLT, Nat.reduceEqDiff]; try rfl) | refine T_seq ?_ | (refine And.intro ?_ ?_; focus (intros; simp_all only [Bool.or_eq_false_iff, Bool.or_eq_true, Bool.and_eq_true, and_self, true_and, and_true]; done))
    refine T_cond rfl (fun hc => ?_) (fun hc => ?_)
    · exact absurd (of_decide_eq_true hc) (by rw [hl]; simp)
    · repeat' first | refine T_seq_region rfl ?_ | refine T_region rfl ?_ | refine T_ret ?_ | refine T_block ?_ | refine T_skip ?_ | refine T_exit ?_ | (simp (maxSteps := 2000000) only [go_sem, Nat.reduceAdd, Nat.reduceMul, Nat.reduceBEq, Nat.reduceLeDiff, Nat.reduceLT, Nat.reduceEqDiff]; try rfl) | refine T_seq ?_ | (refine And.intro ?_ ?_; focus (intros; simp_all only [Bool.or_eq_false_iff, Bool.or_eq_true, Bool.and_eq_true, and_self, true_and, and_true]; done))
      refine ⟨by rw [hcs, hl]; simp [cntL], ⟨(by simp [Mk.put, hl, mkL]), fun hne => (hne (by simp [Mk.put, hl, mkL])).elim, fun i x hx => by simp [Mk.put, hl, mkL] at hx, fun x hx => by simp [Mk.put, hl, mkL] at hx, hs.2.2.2.2⟩, fun hne => (hne (by simp [Mk.put, hl, mkL])).elim⟩
  obtain ⟨g, e, spare, ha, hb, hsp⟩ := own_row (by decide) hs ho hl
  have hsz : Enc.size Int = 1 := rfl
  have hfoot : g ∈ Foot.foot s := by
    rw [show Foot.foot s = _ from Sl.foot_ne hl]
    simp [Sl.blkOf, ha]

  refine Cw_of_T (fun A W => by simp) Try.func19 rfl rfl (by simp)  (fun b hb => Foot.dom ho b hb) fun W0 hW => ?_
  repeat' first | refine T_seq_region rfl ?_ | refine T_region rfl ?_ | refine T_ret ?_ | refine T_block ?_ | refine T_skip ?_ | refine T_exit ?_ | (simp (maxSteps := 2000000) only [go_sem, Nat.reduceAdd, Nat.reduceMul, Nat.reduceBEq, Nat.reduceLeDiff, Nat.reduceLT, Nat.reduceEqDiff]; try rfl) | refine T_seq ?_ | (refine And.intro ?_ ?_; focus (intros; simp_all only [Bool.or_eq_false_iff, Bool.or_eq_true, Bool.and_eq_true, and_self, true_and, and_true]; done))
  refine T_loop (ι := Nat × Hp) (fun i => ⟨[(0, true, .c (.v s.val)), (1, true, .c (.v (.int .i64 (k + (cntL (s.l.take i.1) : Nat))))), (5, true, .c (.v (.int .i64 i.1)))], [], i.2, 0⟩) (fun i => i.1 ≤ s.l.length ∧ i.2 g = some (.cells (rowL (mkd s.l k i.1) spare).toArray e (0, 0)) ∧ ∀ x ∈ mkd s.l k i.1, Enc.ok i.2 x) (fun i => s.l.length - i.1) (0, h) ⟨Nat.zero_le _, by rw [mkd_zero]; exact hb, by rw [mkd_zero]; exact hs.2.2.2.1⟩ ?_ ?_
  · simp (maxSteps := 2000000) only [go_sem, Nat.reduceAdd, Nat.reduceMul, Nat.reduceBEq, Nat.reduceLeDiff, Nat.reduceLT, Nat.reduceEqDiff]
    exact ⟨svInt (by rw [cntL_nil]; omega), rfl⟩
  rintro ⟨i, hk'⟩ ⟨hi, hb0, hok⟩
  repeat' first | refine T_seq_region rfl ?_ | refine T_region rfl ?_ | refine T_ret ?_ | refine T_block ?_ | refine T_skip ?_ | refine T_exit ?_ | (simp (maxSteps := 2000000) only [go_sem, Nat.reduceAdd, Nat.reduceMul, Nat.reduceBEq, Nat.reduceLeDiff, Nat.reduceLT, Nat.reduceEqDiff]; try rfl) | refine T_seq ?_ | (refine And.intro ?_ ?_; focus (intros; simp_all only [Bool.or_eq_false_iff, Bool.or_eq_true, Bool.and_eq_true, and_self, true_and, and_true]; done))
  refine T_cond rfl (fun hd => ?_) (fun hd => ?_)
  · have hlt := lt_of_dec hd
    have hcnt := cntL_take hlt
    have hcle := cntL_take_le (l := s.l) (i := i + 1)

    have hc : Mk.cnt s.l[i] = 1 := rfl
    generalize hκ : k + ((cntL (s.l.take i) : Nat) : Int) = κ
    have hκ0 : 0 ≤ κ ∧ κ + 1 ≤ 4611686018427387904 := by omega
    have hlen : i * 1 + 1 ≤ (rowL (mkd s.l k i) spare).length := by rw [rowL_len, mkd_length, hsz]; omega
    generalize hX : rowL (mkd s.l k i) spare = X0 at hb0 hlen
    refine T_skip ?_
    simp (maxSteps := 2000000) only [go_sem, Nat.reduceAdd, Nat.reduceMul, Nat.reduceBEq, Nat.reduceLeDiff, Nat.reduceLT, Nat.reduceEqDiff]
    refine T_seq ?_
    refine T_block ?_

    refine T_seq_regionX [0, 0, 0, 0, 1] rfl ?_
    simp (maxSteps := 2000000) only [go_sem, Nat.reduceAdd, Nat.reduceMul, Nat.reduceBEq, Nat.reduceLeDiff, Nat.reduceLT, Nat.reduceEqDiff, ha, hlt, Option.map_some, add_mk, Option.isSome_some, Int.toNat_natCast, Nat.zero_add, Nat.add_zero, List.toList_toArray, Hp.ins_ins]
    refine vstoreS_one (by simp only [go_sem]) (by simp only [go_sem]) rfl rfl hb0 (.inr (hW _ hfoot)) (by simp only [List.size_toArray]; omega) ?_
    simp (maxSteps := 2000000) only [go_sem, Nat.reduceAdd, Nat.reduceMul, Nat.reduceBEq, Nat.reduceLeDiff, Nat.reduceLT, Nat.reduceEqDiff, ha, hlt, Option.map_some, add_mk, Option.isSome_some, Int.toNat_natCast, Nat.zero_add, Nat.add_zero, List.toList_toArray, Hp.ins_ins]
    refine T_region rfl ?_
    simp (maxSteps := 2000000) only [go_sem, Nat.reduceAdd, Nat.reduceMul, Nat.reduceBEq, Nat.reduceLeDiff, Nat.reduceLT, Nat.reduceEqDiff]
    rw [wrap64 (by omega)]
    repeat' first | refine T_seq_region rfl ?_ | refine T_region rfl ?_ | refine T_ret ?_ | refine T_block ?_ | refine T_skip ?_ | refine T_exit ?_ | (simp (maxSteps := 2000000) only [go_sem, Nat.reduceAdd, Nat.reduceMul, Nat.reduceBEq, Nat.reduceLeDiff, Nat.reduceLT, Nat.reduceEqDiff]; try rfl) | refine T_seq ?_ | (refine And.intro ?_ ?_; focus (intros; simp_all only [Bool.or_eq_false_iff, Bool.or_eq_true, Bool.and_eq_true, and_self, true_and, and_true]; done))
    refine ⟨(i + 1, hk'.ins g (.cells (spl (i * 1) [.int .i64 (κ)] X0).toArray e (0, 0))), ⟨hlt, ?_, fun x hx => ?_⟩, by simp only; omega, ?_⟩
    · rw [← mkd_next hlt, ← rowL_set (by rw [mkd_length]; exact hlt), hX]
      simp only
      rw [Hp.ins_same]
      congr 4
      simp only [show k + ((cntL (List.take i s.l) : Nat) : Int) = κ from hκ, Mk.put, Enc.enc]
      try simp only [mkB, Int.add_assoc, Int.reduceAdd]
      try rfl
    · simp only at hx ⊢
      rw [← mkd_next hlt] at hx
      rcases List.mem_or_eq_of_mem_set hx with hx | rfl
      · exact hok x hx
      · exact (show I64 (Mk.put (α := Int) _ _) from by show I64 (_ + _); unfold I64; omega)
    · simp (maxSteps := 2000000) only [go_sem, Nat.reduceAdd, Nat.reduceMul, Nat.reduceBEq, Nat.reduceLeDiff, Nat.reduceLT, Nat.reduceEqDiff]
      exact ⟨svInt (by rw [hcnt, hc]; omega), svInt (wrapS hlt (by omega))⟩
  · have hge := ge_of_dec hd
    have hie : i = s.l.length := Nat.le_antisymm hi hge
    repeat' first | refine T_seq_region rfl ?_ | refine T_region rfl ?_ | refine T_ret ?_ | refine T_block ?_ | refine T_skip ?_ | refine T_exit ?_ | (simp (maxSteps := 2000000) only [go_sem, Nat.reduceAdd, Nat.reduceMul, Nat.reduceBEq, Nat.reduceLeDiff, Nat.reduceLT, Nat.reduceEqDiff]; try rfl) | refine T_seq ?_ | (refine And.intro ?_ ?_; focus (intros; simp_all only [Bool.or_eq_false_iff, Bool.or_eq_true, Bool.and_eq_true, and_self, true_and, and_true]; done))
    have hp : mkd s.l k i = (Mk.put s k).l := mkd_all hge
    rw [hp] at hb0 hok
    have hll : (Mk.put s k).l.length = s.l.length := mkL_length
    have hsl := row_sl (α := Int) (h := hk') (g := g) (cap := s.cap) (by decide) hb0 (by rw [hll]; exact hs.1) hs.2.2.2.2 hok
    have hsv : (Sl.mk (some ⟨g, 0, none⟩) s.cap (Mk.put s k).l : Sl Int) = Mk.put s k := by rw [← ha]; rfl
    rw [hsv] at hsl
    refine ⟨by rw [hie, List.take_length, hcs], hsl, fun _ => ⟨⟨g, _, e, ha, hb0, ?_⟩, fun x hx => trivial⟩⟩
    rw [List.size_toArray, rowL_len, hll, hsp]
    rfl

theorem markDutyS_fn (s : Sl DDuty) (k : Int) (h : Hp) (hs : s.Ok h) (ho : Foot.own h s) (hn : (Foot.foot s).Nodup) (hk : 0 ≤ k ∧ k + (Mk.cnt s : Nat) ≤ 4611686018427387904) : Cw Try.prog 48 [s.val, .int .i64 k] h (fun b => b ∈ Foot.foot s) fun v h' => v = .int .i64 (k + (Mk.cnt s : Nat)) ∧ Enc.ok h' (Mk.put s k) ∧ Foot.own h' (Mk.put s k) := by
  have hmax := hs.max
  have hcs : Mk.cnt s = cntL s.l := rfl
  by_cases hl : s.l = []
  · refine Cw_of_T (fun A W => by simp) Try.func48 rfl rfl (by simp)  (fun b hb => Foot.dom ho b hb) fun W0 hW => ?_
    repeat' first | refine T_seq_region rfl ?_ | refine T_region rfl ?_ | refine T_ret ?_ | refine T_block ?_ | refine T_skip ?_ | refine T_exit ?_ | (simp (maxSteps := 2000000) only [go_sem, Nat.reduceAdd, Nat.reduceMul, Nat.reduceBEq, Nat.reduceLeDiff, Nat.reduceLT, Nat.reduceEqDiff]; try rfl) | refine T_seq ?_ | (refine And.intro ?_ ?_; focus (intros; simp_all only [Bool.or_eq_false_iff, Bool.or_eq_true, Bool.and_eq_true, and_self, true_and, and_true]; done))
    refine T_loop (ι := Unit) (fun _ => ⟨[(0, true, .c (.v s.val)), (1, true, .c (.v (.int .i64 k))), (5, true, .c (.v (.int .i64 0)))], [], h, 0⟩) (fun _ => True) (fun _ => 0) () trivial ?_ ?_
    · simp (maxSteps := 2000000) only [go_sem, Nat.reduceAdd, Nat.reduceMul, Nat.reduceBEq, Nat.reduceLeDiff, Nat.reduceLT, Nat.reduceEqDiff]
    rintro _ _
    repeat' first | refine T_seq_region rfl ?_ | refine T_region rfl ?_ | refine T_ret ?_ | refine T_block ?_ | refine T_skip ?_ | refine T_exit ?_ | (simp (maxSteps := 2000000) only [go_sem, Nat.reduceAdd, Nat.reduceMul, Nat.reduceBEq, Nat.reduceLeDiff, Nat.reduceLT, Nat.reduceEqDiff]; try rfl) | refine T_seq ?_ | (refine And.intro ?_ ?_; focus (intros; simp_all only [Bool.or_eq_false_iff, Bool.or_eq_true, Bool.and_eq_true, and_self, true_and, and_true]; done))
    refine T_cond rfl (fun hc => ?_) (fun hc => ?_)
    · exact absurd (of_decide_eq_true hc) (by rw [hl]; simp)
    · repeat' first | refine T_seq_region rfl ?_ | refine T_region rfl ?_ | refine T_ret ?_ | refine T_block ?_ | refine T_skip ?_ | refine T_exit ?_ | (simp (maxSteps := 2000000) only [go_sem, Nat.reduceAdd, Nat.reduceMul, Nat.reduceBEq, Nat.reduceLeDiff, Nat.reduceLT, Nat.reduceEqDiff]; try rfl) | refine T_seq ?_ | (refine And.intro ?_ ?_; focus (intros; simp_all only [Bool.or_eq_false_iff, Bool.or_eq_true, Bool.and_eq_true, and_self, true_and, and_true]; done))
      refine ⟨by rw [hcs, hl]; simp [cntL], ⟨(by simp [Mk.put, hl, mkL]), fun hne => (hne (by simp [Mk.put, hl, mkL])).elim, fun i x hx => by simp [Mk.put, hl, mkL] at hx, fun x hx => by simp [Mk.put, hl, mkL] at hx, hs.2.2.2.2⟩, fun hne => (hne (by simp [Mk.put, hl, mkL])).elim⟩
  obtain ⟨g, e, spare, ha, hb, hsp⟩ := own_row (by decide) hs ho hl
  have hsz : Enc.size DDuty = 4 := rfl
  have hfoot : g ∈ Foot.foot s := by
    rw [show Foot.foot s = _ from Sl.foot_ne hl]
    simp [Sl.blkOf, ha]

  refine Cw_of_T (fun A W => by simp) Try.func48 rfl rfl (by simp)  (fun b hb => Foot.dom ho b hb) fun W0 hW => ?_
  repeat' first | refine T_seq_region rfl ?_ | refine T_region rfl ?_ | refine T_ret ?_ | refine T_block ?_ | refine T_skip ?_ | refine T_exit ?_ | (simp (maxSteps := 2000000) only [go_sem, Nat.reduceAdd, Nat.reduceMul, Nat.reduceBEq, Nat.reduceLeDiff, Nat.reduceLT, Nat.reduceEqDiff]; try rfl) | refine T_seq ?_ | (refine And.intro ?_ ?_; focus (intros; simp_all only [Bool.or_eq_false_iff, Bool.or_eq_true, Bool.and_eq_true, and_self, true_and, and_true]; done))
  refine T_loop (ι := Nat × Hp) (fun i => ⟨[(0, true, .c (.v s.val)), (1, true, .c (.v (.int .i64 (k + (cntL (s.l.take i.1) : Nat))))), (5, true, .c (.v (.int .i64 i.1)))], [], i.2, 0⟩) (fun i => i.1 ≤ s.l.length ∧ i.2 g = some (.cells (rowL (mkd s.l k i.1) spare).toArray e (0, 0)) ∧ ∀ x ∈ mkd s.l k i.1, Enc.ok i.2 x) (fun i => s.l.length - i.1) (0, h) ⟨Nat.zero_le _, by rw [mkd_zero]; exact hb, by rw [mkd_zero]; exact hs.2.2.2.1⟩ ?_ ?_
  · simp (maxSteps := 2000000) only [go_sem, Nat.reduceAdd, Nat.reduceMul, Nat.reduceBEq, Nat.reduceLeDiff, Nat.reduceLT, Nat.reduceEqDiff]
    exact ⟨svInt (by rw [cntL_nil]; omega), rfl⟩
  rintro ⟨i, hk'⟩ ⟨hi, hb0, hok⟩
  repeat' first | refine T_seq_region rfl ?_ | refine T_region rfl ?_ | refine T_ret ?_ | refine T_block ?_ | refine T_skip ?_ | refine T_exit ?_ | (simp (maxSteps := 2000000) only [go_sem, Nat.reduceAdd, Nat.reduceMul, Nat.reduceBEq, Nat.reduceLeDiff, Nat.reduceLT, Nat.reduceEqDiff]; try rfl) | refine T_seq ?_ | (refine And.intro ?_ ?_; focus (intros; simp_all only [Bool.or_eq_false_iff, Bool.or_eq_true, Bool.and_eq_true, and_self, true_and, and_true]; done))
  refine T_cond rfl (fun hd => ?_) (fun hd => ?_)
  · have hlt := lt_of_dec hd
    have hcnt := cntL_take hlt
    have hcle := cntL_take_le (l := s.l) (i := i + 1)

    have hc : Mk.cnt s.l[i] = 4 := rfl
    generalize hκ : k + ((cntL (s.l.take i) : Nat) : Int) = κ
    have hκ0 : 0 ≤ κ ∧ κ + 4 ≤ 4611686018427387904 := by omega
    have hlen : i * 4 + 4 ≤ (rowL (mkd s.l k i) spare).length := by rw [rowL_len, mkd_length, hsz]; omega
    generalize hX : rowL (mkd s.l k i) spare = X0 at hb0 hlen
    refine T_skip ?_
    simp (maxSteps := 2000000) only [go_sem, Nat.reduceAdd, Nat.reduceMul, Nat.reduceBEq, Nat.reduceLeDiff, Nat.reduceLT, Nat.reduceEqDiff]
    refine T_seq ?_
    refine T_block ?_

    refine T_seq_regionX [0, 0, 0, 0, 0, 1] rfl ?_
    simp (maxSteps := 2000000) only [go_sem, Nat.reduceAdd, Nat.reduceMul, Nat.reduceBEq, Nat.reduceLeDiff, Nat.reduceLT, Nat.reduceEqDiff, ha, hlt, Option.map_some, add_mk, Option.isSome_some, Int.toNat_natCast, Nat.zero_add, Nat.add_zero, List.toList_toArray, Hp.ins_ins]
    refine vstoreS_one (by simp only [go_sem]) (by simp only [go_sem]) rfl rfl hb0 (.inr (hW _ hfoot)) (by simp only [List.size_toArray]; omega) ?_
    simp (maxSteps := 2000000) only [go_sem, Nat.reduceAdd, Nat.reduceMul, Nat.reduceBEq, Nat.reduceLeDiff, Nat.reduceLT, Nat.reduceEqDiff, ha, hlt, Option.map_some, add_mk, Option.isSome_some, Int.toNat_natCast, Nat.zero_add, Nat.add_zero, List.toList_toArray, Hp.ins_ins]
    refine T_seq_region rfl ?_
    simp (maxSteps := 2000000) only [go_sem, Nat.reduceAdd, Nat.reduceMul, Nat.reduceBEq, Nat.reduceLeDiff, Nat.reduceLT, Nat.reduceEqDiff]
    rw [wrap64 (by omega)]
    have hsl1 : (spl (i * 4) [.int .i64 (κ)] X0).length = X0.length := spl_len (by simp only [List.length_cons, List.length_nil]; omega)
    refine T_seq_regionX [0, 0, 0, 0, 0, 1] rfl ?_
    simp (maxSteps := 2000000) only [go_sem, Nat.reduceAdd, Nat.reduceMul, Nat.reduceBEq, Nat.reduceLeDiff, Nat.reduceLT, Nat.reduceEqDiff, ha, hlt, Option.map_some, add_mk, Option.isSome_some, Int.toNat_natCast, Nat.zero_add, Nat.add_zero, List.toList_toArray, Hp.ins_ins]
    refine vstoreS_one (by simp only [go_sem]) (by simp only [go_sem]) rfl rfl Hp.ins_same (.inr (hW _ hfoot)) (by simp only [List.size_toArray, hsl1]; omega) ?_
    simp (maxSteps := 2000000) only [go_sem, Nat.reduceAdd, Nat.reduceMul, Nat.reduceBEq, Nat.reduceLeDiff, Nat.reduceLT, Nat.reduceEqDiff, ha, hlt, Option.map_some, add_mk, Option.isSome_some, Int.toNat_natCast, Nat.zero_add, Nat.add_zero, List.toList_toArray, Hp.ins_ins]
    rw [show spl (i * 4 + 1) [.int .i64 (κ + 1)] (spl (i * 4) [.int .i64 (κ)] X0) = spl (i * 4) [.int .i64 (κ), .int .i64 (κ + 1)] X0 from spl_next (m := [.int .i64 (κ)]) (by simp only [List.length_cons, List.length_nil]; omega)]
    refine T_seq_region rfl ?_
    simp (maxSteps := 2000000) only [go_sem, Nat.reduceAdd, Nat.reduceMul, Nat.reduceBEq, Nat.reduceLeDiff, Nat.reduceLT, Nat.reduceEqDiff]
    rw [wrap64 (by omega)]
    have hsl2 : (spl (i * 4) [.int .i64 (κ), .int .i64 (κ + 1)] X0).length = X0.length := spl_len (by simp only [List.length_cons, List.length_nil]; omega)
    refine T_seq_regionX [0, 0, 0, 0, 0, 1] rfl ?_
    simp (maxSteps := 2000000) only [go_sem, Nat.reduceAdd, Nat.reduceMul, Nat.reduceBEq, Nat.reduceLeDiff, Nat.reduceLT, Nat.reduceEqDiff, ha, hlt, Option.map_some, add_mk, Option.isSome_some, Int.toNat_natCast, Nat.zero_add, Nat.add_zero, List.toList_toArray, Hp.ins_ins]
    refine vstoreS_one (by simp only [go_sem]) (by simp only [go_sem]) rfl rfl Hp.ins_same (.inr (hW _ hfoot)) (by simp only [List.size_toArray, hsl2]; omega) ?_
    simp (maxSteps := 2000000) only [go_sem, Nat.reduceAdd, Nat.reduceMul, Nat.reduceBEq, Nat.reduceLeDiff, Nat.reduceLT, Nat.reduceEqDiff, ha, hlt, Option.map_some, add_mk, Option.isSome_some, Int.toNat_natCast, Nat.zero_add, Nat.add_zero, List.toList_toArray, Hp.ins_ins]
    rw [show spl (i * 4 + 2) [.int .i64 (κ + 1 + 1)] (spl (i * 4) [.int .i64 (κ), .int .i64 (κ + 1)] X0) = spl (i * 4) [.int .i64 (κ), .int .i64 (κ + 1), .int .i64 (κ + 1 + 1)] X0 from spl_next (m := [.int .i64 (κ), .int .i64 (κ + 1)]) (by simp only [List.length_cons, List.length_nil]; omega)]
    refine T_seq_region rfl ?_
    simp (maxSteps := 2000000) only [go_sem, Nat.reduceAdd, Nat.reduceMul, Nat.reduceBEq, Nat.reduceLeDiff, Nat.reduceLT, Nat.reduceEqDiff]
    rw [wrap64 (by omega)]
    have hsl3 : (spl (i * 4) [.int .i64 (κ), .int .i64 (κ + 1), .int .i64 (κ + 1 + 1)] X0).length = X0.length := spl_len (by simp only [List.length_cons, List.length_nil]; omega)
    refine T_seq_regionX [0, 0, 0, 0, 0, 1] rfl ?_
    simp (maxSteps := 2000000) only [go_sem, Nat.reduceAdd, Nat.reduceMul, Nat.reduceBEq, Nat.reduceLeDiff, Nat.reduceLT, Nat.reduceEqDiff, ha, hlt, Option.map_some, add_mk, Option.isSome_some, Int.toNat_natCast, Nat.zero_add, Nat.add_zero, List.toList_toArray, Hp.ins_ins]
    refine vstoreS_one (by simp only [go_sem]) (by simp only [go_sem]) rfl rfl Hp.ins_same (.inr (hW _ hfoot)) (by simp only [List.size_toArray, hsl3]; omega) ?_
    simp (maxSteps := 2000000) only [go_sem, Nat.reduceAdd, Nat.reduceMul, Nat.reduceBEq, Nat.reduceLeDiff, Nat.reduceLT, Nat.reduceEqDiff, ha, hlt, Option.map_some, add_mk, Option.isSome_some, Int.toNat_natCast, Nat.zero_add, Nat.add_zero, List.toList_toArray, Hp.ins_ins]
    rw [show spl (i * 4 + 3) [.int .i64 (κ + 1 + 1 + 1)] (spl (i * 4) [.int .i64 (κ), .int .i64 (κ + 1), .int .i64 (κ + 1 + 1)] X0) = spl (i * 4) [.int .i64 (κ), .int .i64 (κ + 1), .int .i64 (κ + 1 + 1), .int .i64 (κ + 1 + 1 + 1)] X0 from spl_next (m := [.int .i64 (κ), .int .i64 (κ + 1), .int .i64 (κ + 1 + 1)]) (by simp only [List.length_cons, List.length_nil]; omega)]
    refine T_region rfl ?_
    simp (maxSteps := 2000000) only [go_sem, Nat.reduceAdd, Nat.reduceMul, Nat.reduceBEq, Nat.reduceLeDiff, Nat.reduceLT, Nat.reduceEqDiff]
    rw [wrap64 (by omega)]
    repeat' first | refine T_seq_region rfl ?_ | refine T_region rfl ?_ | refine T_ret ?_ | refine T_block ?_ | refine T_skip ?_ | refine T_exit ?_ | (simp (maxSteps := 2000000) only [go_sem, Nat.reduceAdd, Nat.reduceMul, Nat.reduceBEq, Nat.reduceLeDiff, Nat.reduceLT, Nat.reduceEqDiff]; try rfl) | refine T_seq ?_ | (refine And.intro ?_ ?_; focus (intros; simp_all only [Bool.or_eq_false_iff, Bool.or_eq_true, Bool.and_eq_true, and_self, true_and, and_true]; done))
    refine ⟨(i + 1, hk'.ins g (.cells (spl (i * 4) [.int .i64 (κ), .int .i64 (κ + 1), .int .i64 (κ + 1 + 1), .int .i64 (κ + 1 + 1 + 1)] X0).toArray e (0, 0))), ⟨hlt, ?_, fun x hx => ?_⟩, by simp only; omega, ?_⟩
    · rw [← mkd_next hlt, ← rowL_set (by rw [mkd_length]; exact hlt), hX]
      simp only
      rw [Hp.ins_same]
      congr 4
      simp only [show k + ((cntL (List.take i s.l) : Nat) : Int) = κ from hκ, Mk.put, Enc.enc, DDuty.cells]
      try simp only [mkB, Int.add_assoc, Int.reduceAdd]
      try rfl
    · simp only at hx ⊢
      rw [← mkd_next hlt] at hx
      rcases List.mem_or_eq_of_mem_set hx with hx | rfl
      · exact hok x hx
      · exact (show I64 _ ∧ I64 _ ∧ I64 _ ∧ I64 _ from by unfold I64; simp only [Mk.put]; omega)
    · simp (maxSteps := 2000000) only [go_sem, Nat.reduceAdd, Nat.reduceMul, Nat.reduceBEq, Nat.reduceLeDiff, Nat.reduceLT, Nat.reduceEqDiff]
      exact ⟨svInt (by rw [hcnt, hc]; omega), svInt (wrapS hlt (by omega))⟩
  · have hge := ge_of_dec hd
    have hie : i = s.l.length := Nat.le_antisymm hi hge
    repeat' first | refine T_seq_region rfl ?_ | refine T_region rfl ?_ | refine T_ret ?_ | refine T_block ?_ | refine T_skip ?_ | refine T_exit ?_ | (simp (maxSteps := 2000000) only [go_sem, Nat.reduceAdd, Nat.reduceMul, Nat.reduceBEq, Nat.reduceLeDiff, Nat.reduceLT, Nat.reduceEqDiff]; try rfl) | refine T_seq ?_ | (refine And.intro ?_ ?_; focus (intros; simp_all only [Bool.or_eq_false_iff, Bool.or_eq_true, Bool.and_eq_true, and_self, true_and, and_true]; done))
    have hp : mkd s.l k i = (Mk.put s k).l := mkd_all hge
    rw [hp] at hb0 hok
    have hll : (Mk.put s k).l.length = s.l.length := mkL_length
    have hsl := row_sl (α := DDuty) (h := hk') (g := g) (cap := s.cap) (by decide) hb0 (by rw [hll]; exact hs.1) hs.2.2.2.2 hok
    have hsv : (Sl.mk (some ⟨g, 0, none⟩) s.cap (Mk.put s k).l : Sl DDuty) = Mk.put s k := by rw [← ha]; rfl
    rw [hsv] at hsl
    refine ⟨by rw [hie, List.take_length, hcs], hsl, fun _ => ⟨⟨g, _, e, ha, hb0, ?_⟩, fun x hx => trivial⟩⟩
    rw [List.size_toArray, rowL_len, hll, hsp]
    rfl

theorem markPassageS_fn (s : Sl DPassage) (k : Int) (h : Hp) (hs : s.Ok h) (ho : Foot.own h s) (hn : (Foot.foot s).Nodup) (hk : 0 ≤ k ∧ k + (Mk.cnt s : Nat) ≤ 4611686018427387904) : Cw Try.prog 47 [s.val, .int .i64 k] h (fun b => b ∈ Foot.foot s) fun v h' => v = .int .i64 (k + (Mk.cnt s : Nat)) ∧ Enc.ok h' (Mk.put s k) ∧ Foot.own h' (Mk.put s k) := by
  have hmax := hs.max
  have hcs : Mk.cnt s = cntL s.l := rfl
  by_cases hl : s.l = []
  · refine Cw_of_T (fun A W => by simp) Try.func47 rfl rfl (by simp)  (fun b hb => Foot.dom ho b hb) fun W0 hW => ?_
    repeat' first | refine T_seq_region rfl ?_ | refine T_region rfl ?_ | refine T_ret ?_ | refine T_block ?_ | refine T_skip ?_ | refine T_exit ?_ | (simp (maxSteps := 2000000) only [go_sem, Nat.reduceAdd, Nat.reduceMul, Nat.reduceBEq, Nat.reduceLeDiff, Nat.reduceLT, Nat.reduceEqDiff]; try rfl) | refine T_seq ?_ | (refine And.intro ?_ ?_; focus (intros; simp_all only [Bool.or_eq_false_iff, Bool.or_eq_true, Bool.and_eq_true, and_self, true_and, and_true]; done))
    refine T_loop (ι := Unit) (fun _ => ⟨[(0, true, .c (.v s.val)), (1, true, .c (.v (.int .i64 k))), (5, true, .c (.v (.int .i64 0)))], [], h, 0⟩) (fun _ => True) (fun _ => 0) () trivial ?_ ?_
    · simp (maxSteps := 2000000) only [go_sem, Nat.reduceAdd, Nat.reduceMul, Nat.reduceBEq, Nat.reduceLeDiff, Nat.reduceLT, Nat.reduceEqDiff]
    rintro _ _
    repeat' first | refine T_seq_region rfl ?_ | refine T_region rfl ?_ | refine T_ret ?_ | refine T_block ?_ | refine T_skip ?_ | refine T_exit ?_ | (simp (maxSteps := 2000000) only [go_sem, Nat.reduceAdd, Nat.reduceMul, Nat.reduceBEq, Nat.reduceLeDiff, Nat.reduceLT, Nat.reduceEqDiff]; try rfl) | refine T_seq ?_ | (refine And.intro ?_ ?_; focus (intros; simp_all only [Bool.or_eq_false_iff, Bool.or_eq_true, Bool.and_eq_true, and_self, true_and, and_true]; done))
    refine T_cond rfl (fun hc => ?_) (fun hc => ?_)
    · exact absurd (of_decide_eq_true hc) (by rw [hl]; simp)
    · repeat' first | refine T_seq_region rfl ?_ | refine T_region rfl ?_ | refine T_ret ?_ | refine T_block ?_ | refine T_skip ?_ | refine T_exit ?_ | (simp (maxSteps := 2000000) only [go_sem, Nat.reduceAdd, Nat.reduceMul, Nat.reduceBEq, Nat.reduceLeDiff, Nat.reduceLT, Nat.reduceEqDiff]; try rfl) | refine T_seq ?_ | (refine And.intro ?_ ?_; focus (intros; simp_all only [Bool.or_eq_false_iff, Bool.or_eq_true, Bool.and_eq_true, and_self, true_and, and_true]; done))
      refine ⟨by rw [hcs, hl]; simp [cntL], ⟨(by simp [Mk.put, hl, mkL]), fun hne => (hne (by simp [Mk.put, hl, mkL])).elim, fun i x hx => by simp [Mk.put, hl, mkL] at hx, fun x hx => by simp [Mk.put, hl, mkL] at hx, hs.2.2.2.2⟩, fun hne => (hne (by simp [Mk.put, hl, mkL])).elim⟩
  obtain ⟨g, e, spare, ha, hb, hsp⟩ := own_row (by decide) hs ho hl
  have hsz : Enc.size DPassage = 5 := rfl
  have hfoot : g ∈ Foot.foot s := by
    rw [show Foot.foot s = _ from Sl.foot_ne hl]
    simp [Sl.blkOf, ha]

  refine Cw_of_T (fun A W => by simp) Try.func47 rfl rfl (by simp)  (fun b hb => Foot.dom ho b hb) fun W0 hW => ?_
  repeat' first | refine T_seq_region rfl ?_ | refine T_region rfl ?_ | refine T_ret ?_ | refine T_block ?_ | refine T_skip ?_ | refine T_exit ?_ | (simp (maxSteps := 2000000) only [go_sem, Nat.reduceAdd, Nat.reduceMul, Nat.reduceBEq, Nat.reduceLeDiff, Nat.reduceLT, Nat.reduceEqDiff]; try rfl) | refine T_seq ?_ | (refine And.intro ?_ ?_; focus (intros; simp_all only [Bool.or_eq_false_iff, Bool.or_eq_true, Bool.and_eq_true, and_self, true_and, and_true]; done))
  refine T_loop (ι := Nat × Hp) (fun i => ⟨[(0, true, .c (.v s.val)), (1, true, .c (.v (.int .i64 (k + (cntL (s.l.take i.1) : Nat))))), (5, true, .c (.v (.int .i64 i.1)))], [], i.2, 0⟩) (fun i => i.1 ≤ s.l.length ∧ i.2 g = some (.cells (rowL (mkd s.l k i.1) spare).toArray e (0, 0)) ∧ ∀ x ∈ mkd s.l k i.1, Enc.ok i.2 x) (fun i => s.l.length - i.1) (0, h) ⟨Nat.zero_le _, by rw [mkd_zero]; exact hb, by rw [mkd_zero]; exact hs.2.2.2.1⟩ ?_ ?_
  · simp (maxSteps := 2000000) only [go_sem, Nat.reduceAdd, Nat.reduceMul, Nat.reduceBEq, Nat.reduceLeDiff, Nat.reduceLT, Nat.reduceEqDiff]
    exact ⟨svInt (by rw [cntL_nil]; omega), rfl⟩
  rintro ⟨i, hk'⟩ ⟨hi, hb0, hok⟩
  repeat' first | refine T_seq_region rfl ?_ | refine T_region rfl ?_ | refine T_ret ?_ | refine T_block ?_ | refine T_skip ?_ | refine T_exit ?_ | (simp (maxSteps := 2000000) only [go_sem, Nat.reduceAdd, Nat.reduceMul, Nat.reduceBEq, Nat.reduceLeDiff, Nat.reduceLT, Nat.reduceEqDiff]; try rfl) | refine T_seq ?_ | (refine And.intro ?_ ?_; focus (intros; simp_all only [Bool.or_eq_false_iff, Bool.or_eq_true, Bool.and_eq_true, and_self, true_and, and_true]; done))
  refine T_cond rfl (fun hd => ?_) (fun hd => ?_)
  · have hlt := lt_of_dec hd
    have hcnt := cntL_take hlt
    have hcle := cntL_take_le (l := s.l) (i := i + 1)

    have hc : Mk.cnt s.l[i] = 5 := rfl
    generalize hκ : k + ((cntL (s.l.take i) : Nat) : Int) = κ
    have hκ0 : 0 ≤ κ ∧ κ + 5 ≤ 4611686018427387904 := by omega
    have hlen : i * 5 + 5 ≤ (rowL (mkd s.l k i) spare).length := by rw [rowL_len, mkd_length, hsz]; omega
    generalize hX : rowL (mkd s.l k i) spare = X0 at hb0 hlen
    refine T_skip ?_
    simp (maxSteps := 2000000) only [go_sem, Nat.reduceAdd, Nat.reduceMul, Nat.reduceBEq, Nat.reduceLeDiff, Nat.reduceLT, Nat.reduceEqDiff]
    refine T_seq ?_
    refine T_block ?_

    refine T_seq_regionX [0, 0, 0, 0, 0, 1] rfl ?_
    simp (maxSteps := 2000000) only [go_sem, Nat.reduceAdd, Nat.reduceMul, Nat.reduceBEq, Nat.reduceLeDiff, Nat.reduceLT, Nat.reduceEqDiff, ha, hlt, Option.map_some, add_mk, Option.isSome_some, Int.toNat_natCast, Nat.zero_add, Nat.add_zero, List.toList_toArray, Hp.ins_ins]
    refine vstoreS_one (by simp only [go_sem]) (by simp only [go_sem]) rfl rfl hb0 (.inr (hW _ hfoot)) (by simp only [List.size_toArray]; omega) ?_
    simp (maxSteps := 2000000) only [go_sem, Nat.reduceAdd, Nat.reduceMul, Nat.reduceBEq, Nat.reduceLeDiff, Nat.reduceLT, Nat.reduceEqDiff, ha, hlt, Option.map_some, add_mk, Option.isSome_some, Int.toNat_natCast, Nat.zero_add, Nat.add_zero, List.toList_toArray, Hp.ins_ins]
    refine T_seq_region rfl ?_
    simp (maxSteps := 2000000) only [go_sem, Nat.reduceAdd, Nat.reduceMul, Nat.reduceBEq, Nat.reduceLeDiff, Nat.reduceLT, Nat.reduceEqDiff]
    rw [wrap64 (by omega)]
    have hsl1 : (spl (i * 5) [.int .i64 (κ)] X0).length = X0.length := spl_len (by simp only [List.length_cons, List.length_nil]; omega)
    refine T_seq_regionX [0, 0, 0, 0, 0, 1] rfl ?_
    simp (maxSteps := 2000000) only [go_sem, Nat.reduceAdd, Nat.reduceMul, Nat.reduceBEq, Nat.reduceLeDiff, Nat.reduceLT, Nat.reduceEqDiff, ha, hlt, Option.map_some, add_mk, Option.isSome_some, Int.toNat_natCast, Nat.zero_add, Nat.add_zero, List.toList_toArray, Hp.ins_ins]
    refine vstoreS_one (by simp only [go_sem]) (by simp only [go_sem]) rfl rfl Hp.ins_same (.inr (hW _ hfoot)) (by simp only [List.size_toArray, hsl1]; omega) ?_
    simp (maxSteps := 2000000) only [go_sem, Nat.reduceAdd, Nat.reduceMul, Nat.reduceBEq, Nat.reduceLeDiff, Nat.reduceLT, Nat.reduceEqDiff, ha, hlt, Option.map_some, add_mk, Option.isSome_some, Int.toNat_natCast, Nat.zero_add, Nat.add_zero, List.toList_toArray, Hp.ins_ins]
    rw [show spl (i * 5 + 1) [.int .i64 (κ + 1)] (spl (i * 5) [.int .i64 (κ)] X0) = spl (i * 5) [.int .i64 (κ), .int .i64 (κ + 1)] X0 from spl_next (m := [.int .i64 (κ)]) (by simp only [List.length_cons, List.length_nil]; omega)]
    refine T_seq_region rfl ?_
    simp (maxSteps := 2000000) only [go_sem, Nat.reduceAdd, Nat.reduceMul, Nat.reduceBEq, Nat.reduceLeDiff, Nat.reduceLT, Nat.reduceEqDiff]
    rw [wrap64 (by omega)]
    have hsl2 : (spl (i * 5) [.int .i64 (κ), .int .i64 (κ + 1)] X0).length = X0.length := spl_len (by simp only [List.length_cons, List.length_nil]; omega)
    refine T_seq_regionX [0, 0, 0, 0, 0, 0, 0, 1] rfl ?_
    simp (maxSteps := 2000000) only [go_sem, Nat.reduceAdd, Nat.reduceMul, Nat.reduceBEq, Nat.reduceLeDiff, Nat.reduceLT, Nat.reduceEqDiff, ha, hlt, Option.map_some, add_mk, Option.isSome_some, Int.toNat_natCast, Nat.zero_add, Nat.add_zero, List.toList_toArray, Hp.ins_ins]
    refine ⟨by decide, ?_⟩
    refine vstoreS_one (by simp only [go_sem]) (by simp only [go_sem]) rfl rfl Hp.ins_same (.inr (hW _ hfoot)) (by simp only [List.size_toArray, hsl2]; omega) ?_
    simp (maxSteps := 2000000) only [go_sem, Nat.reduceAdd, Nat.reduceMul, Nat.reduceBEq, Nat.reduceLeDiff, Nat.reduceLT, Nat.reduceEqDiff, ha, hlt, Option.map_some, add_mk, Option.isSome_some, Int.toNat_natCast, Nat.zero_add, Nat.add_zero, List.toList_toArray, Hp.ins_ins]
    rw [show spl (i * 5 + 2) [.bool ((κ + 1 + 1).tmod 3 == 0)] (spl (i * 5) [.int .i64 (κ), .int .i64 (κ + 1)] X0) = spl (i * 5) [.int .i64 (κ), .int .i64 (κ + 1), .bool ((κ + 1 + 1).tmod 3 == 0)] X0 from spl_next (m := [.int .i64 (κ), .int .i64 (κ + 1)]) (by simp only [List.length_cons, List.length_nil]; omega)]
    refine T_seq_region rfl ?_
    simp (maxSteps := 2000000) only [go_sem, Nat.reduceAdd, Nat.reduceMul, Nat.reduceBEq, Nat.reduceLeDiff, Nat.reduceLT, Nat.reduceEqDiff]
    rw [wrap64 (by omega)]
    have hsl3 : (spl (i * 5) [.int .i64 (κ), .int .i64 (κ + 1), .bool ((κ + 1 + 1).tmod 3 == 0)] X0).length = X0.length := spl_len (by simp only [List.length_cons, List.length_nil]; omega)
    refine T_seq_regionX [0, 0, 0, 0, 0, 1] rfl ?_
    simp (maxSteps := 2000000) only [go_sem, Nat.reduceAdd, Nat.reduceMul, Nat.reduceBEq, Nat.reduceLeDiff, Nat.reduceLT, Nat.reduceEqDiff, ha, hlt, Option.map_some, add_mk, Option.isSome_some, Int.toNat_natCast, Nat.zero_add, Nat.add_zero, List.toList_toArray, Hp.ins_ins]
    refine vstoreS_one (by simp only [go_sem]) (by simp only [go_sem]) rfl rfl Hp.ins_same (.inr (hW _ hfoot)) (by simp only [List.size_toArray, hsl3]; omega) ?_
    simp (maxSteps := 2000000) only [go_sem, Nat.reduceAdd, Nat.reduceMul, Nat.reduceBEq, Nat.reduceLeDiff, Nat.reduceLT, Nat.reduceEqDiff, ha, hlt, Option.map_some, add_mk, Option.isSome_some, Int.toNat_natCast, Nat.zero_add, Nat.add_zero, List.toList_toArray, Hp.ins_ins]
    rw [show spl (i * 5 + 3) [.int .i64 (κ + 1 + 1 + 1)] (spl (i * 5) [.int .i64 (κ), .int .i64 (κ + 1), .bool ((κ + 1 + 1).tmod 3 == 0)] X0) = spl (i * 5) [.int .i64 (κ), .int .i64 (κ + 1), .bool ((κ + 1 + 1).tmod 3 == 0), .int .i64 (κ + 1 + 1 + 1)] X0 from spl_next (m := [.int .i64 (κ), .int .i64 (κ + 1), .bool ((κ + 1 + 1).tmod 3 == 0)]) (by simp only [List.length_cons, List.length_nil]; omega)]
    refine T_seq_region rfl ?_
    simp (maxSteps := 2000000) only [go_sem, Nat.reduceAdd, Nat.reduceMul, Nat.reduceBEq, Nat.reduceLeDiff, Nat.reduceLT, Nat.reduceEqDiff]
    rw [wrap64 (by omega)]
    have hsl4 : (spl (i * 5) [.int .i64 (κ), .int .i64 (κ + 1), .bool ((κ + 1 + 1).tmod 3 == 0), .int .i64 (κ + 1 + 1 + 1)] X0).length = X0.length := spl_len (by simp only [List.length_cons, List.length_nil]; omega)
    refine T_seq_regionX [0, 0, 0, 0, 0, 1] rfl ?_
    simp (maxSteps := 2000000) only [go_sem, Nat.reduceAdd, Nat.reduceMul, Nat.reduceBEq, Nat.reduceLeDiff, Nat.reduceLT, Nat.reduceEqDiff, ha, hlt, Option.map_some, add_mk, Option.isSome_some, Int.toNat_natCast, Nat.zero_add, Nat.add_zero, List.toList_toArray, Hp.ins_ins]
    refine vstoreS_one (by simp only [go_sem]) (by simp only [go_sem]) rfl rfl Hp.ins_same (.inr (hW _ hfoot)) (by simp only [List.size_toArray, hsl4]; omega) ?_
    simp (maxSteps := 2000000) only [go_sem, Nat.reduceAdd, Nat.reduceMul, Nat.reduceBEq, Nat.reduceLeDiff, Nat.reduceLT, Nat.reduceEqDiff, ha, hlt, Option.map_some, add_mk, Option.isSome_some, Int.toNat_natCast, Nat.zero_add, Nat.add_zero, List.toList_toArray, Hp.ins_ins]
    rw [show spl (i * 5 + 4) [.int .i64 (κ + 1 + 1 + 1 + 1)] (spl (i * 5) [.int .i64 (κ), .int .i64 (κ + 1), .bool ((κ + 1 + 1).tmod 3 == 0), .int .i64 (κ + 1 + 1 + 1)] X0) = spl (i * 5) [.int .i64 (κ), .int .i64 (κ + 1), .bool ((κ + 1 + 1).tmod 3 == 0), .int .i64 (κ + 1 + 1 + 1), .int .i64 (κ + 1 + 1 + 1 + 1)] X0 from spl_next (m := [.int .i64 (κ), .int .i64 (κ + 1), .bool ((κ + 1 + 1).tmod 3 == 0), .int .i64 (κ + 1 + 1 + 1)]) (by simp only [List.length_cons, List.length_nil]; omega)]
    refine T_region rfl ?_
    simp (maxSteps := 2000000) only [go_sem, Nat.reduceAdd, Nat.reduceMul, Nat.reduceBEq, Nat.reduceLeDiff, Nat.reduceLT, Nat.reduceEqDiff]
    rw [wrap64 (by omega)]
    repeat' first | refine T_seq_region rfl ?_ | refine T_region rfl ?_ | refine T_ret ?_ | refine T_block ?_ | refine T_skip ?_ | refine T_exit ?_ | (simp (maxSteps := 2000000) only [go_sem, Nat.reduceAdd, Nat.reduceMul, Nat.reduceBEq, Nat.reduceLeDiff, Nat.reduceLT, Nat.reduceEqDiff]; try rfl) | refine T_seq ?_ | (refine And.intro ?_ ?_; focus (intros; simp_all only [Bool.or_eq_false_iff, Bool.or_eq_true, Bool.and_eq_true, and_self, true_and, and_true]; done))
    refine ⟨(i + 1, hk'.ins g (.cells (spl (i * 5) [.int .i64 (κ), .int .i64 (κ + 1), .bool ((κ + 1 + 1).tmod 3 == 0), .int .i64 (κ + 1 + 1 + 1), .int .i64 (κ + 1 + 1 + 1 + 1)] X0).toArray e (0, 0))), ⟨hlt, ?_, fun x hx => ?_⟩, by simp only; omega, ?_⟩
    · rw [← mkd_next hlt, ← rowL_set (by rw [mkd_length]; exact hlt), hX]
      simp only
      rw [Hp.ins_same]
      congr 4
      simp only [show k + ((cntL (List.take i s.l) : Nat) : Int) = κ from hκ, Mk.put, Enc.enc, DPassage.cells]
      try simp only [mkB, Int.add_assoc, Int.reduceAdd]
      try rfl
    · simp only at hx ⊢
      rw [← mkd_next hlt] at hx
      rcases List.mem_or_eq_of_mem_set hx with hx | rfl
      · exact hok x hx
      · exact (show I64 _ ∧ I64 _ ∧ I64 _ ∧ I64 _ from by unfold I64; simp only [Mk.put]; omega)
    · simp (maxSteps := 2000000) only [go_sem, Nat.reduceAdd, Nat.reduceMul, Nat.reduceBEq, Nat.reduceLeDiff, Nat.reduceLT, Nat.reduceEqDiff]
      exact ⟨svInt (by rw [hcnt, hc]; omega), svInt (wrapS hlt (by omega))⟩
  · have hge := ge_of_dec hd
    have hie : i = s.l.length := Nat.le_antisymm hi hge
    repeat' first | refine T_seq_region rfl ?_ | refine T_region rfl ?_ | refine T_ret ?_ | refine T_block ?_ | refine T_skip ?_ | refine T_exit ?_ | (simp (maxSteps := 2000000) only [go_sem, Nat.reduceAdd, Nat.reduceMul, Nat.reduceBEq, Nat.reduceLeDiff, Nat.reduceLT, Nat.reduceEqDiff]; try rfl) | refine T_seq ?_ | (refine And.intro ?_ ?_; focus (intros; simp_all only [Bool.or_eq_false_iff, Bool.or_eq_true, Bool.and_eq_true, and_self, true_and, and_true]; done))
    have hp : mkd s.l k i = (Mk.put s k).l := mkd_all hge
    rw [hp] at hb0 hok
    have hll : (Mk.put s k).l.length = s.l.length := mkL_length
    have hsl := row_sl (α := DPassage) (h := hk') (g := g) (cap := s.cap) (by decide) hb0 (by rw [hll]; exact hs.1) hs.2.2.2.2 hok
    have hsv : (Sl.mk (some ⟨g, 0, none⟩) s.cap (Mk.put s k).l : Sl DPassage) = Mk.put s k := by rw [← ha]; rfl
    rw [hsv] at hsl
    refine ⟨by rw [hie, List.take_length, hcs], hsl, fun _ => ⟨⟨g, _, e, ha, hb0, ?_⟩, fun x hx => trivial⟩⟩
    rw [List.size_toArray, rowL_len, hll, hsp]
    rfl

theorem markPointS_fn (s : Sl DPoint) (k : Int) (h : Hp) (hs : s.Ok h) (ho : Foot.own h s) (hn : (Foot.foot s).Nodup) (hk : 0 ≤ k ∧ k + (Mk.cnt s : Nat) ≤ 4611686018427387904) : Cw Try.prog 96 [s.val, .int .i64 k] h (fun b => b ∈ Foot.foot s) fun v h' => v = .int .i64 (k + (Mk.cnt s : Nat)) ∧ Enc.ok h' (Mk.put s k) ∧ Foot.own h' (Mk.put s k) := by
  have hmax := hs.max
  have hcs : Mk.cnt s = cntL s.l := rfl
  by_cases hl : s.l = []
  · refine Cw_of_T (fun A W => by simp) Try.func96 rfl rfl (by simp)  (fun b hb => Foot.dom ho b hb) fun W0 hW => ?_
    repeat' first | refine T_seq_region rfl ?_ | refine T_region rfl ?_ | refine T_ret ?_ | refine T_block ?_ | refine T_skip ?_ | refine T_exit ?_ | (simp (maxSteps := 2000000) only [go_sem, Nat.reduceAdd, Nat.reduceMul, Nat.reduceBEq, Nat.reduceLeDiff, Nat.reduceLT, Nat.reduceEqDiff]; try rfl) | refine T_seq ?_ | (refine And.intro ?_ ?_; focus (intros; simp_all only [Bool.or_eq_false_iff, Bool.or_eq_true, Bool.and_eq_true, and_self, true_and, and_true]; done))
    refine T_loop (ι := Unit) (fun _ => ⟨[(0, true, .c (.v s.val)), (1, true, .c (.v (.int .i64 k))), (5, true, .c (.v (.int .i64 0)))], [], h, 0⟩) (fun _ => True) (fun _ => 0) () trivial ?_ ?_
    · simp (maxSteps := 2000000) only [go_sem, Nat.reduceAdd, Nat.reduceMul, Nat.reduceBEq, Nat.reduceLeDiff, Nat.reduceLT, Nat.reduceEqDiff]
    rintro _ _
    repeat' first | refine T_seq_region rfl ?_ | refine T_region rfl ?_ | refine T_ret ?_ | refine T_block ?_ | refine T_skip ?_ | refine T_exit ?_ | (simp (maxSteps := 2000000) only [go_sem, Nat.reduceAdd, Nat.reduceMul, Nat.reduceBEq, Nat.reduceLeDiff, Nat.reduceLT, Nat.reduceEqDiff]; try rfl) | refine T_seq ?_ | (refine And.intro ?_ ?_; focus (intros; simp_all only [Bool.or_eq_false_iff, Bool.or_eq_true, Bool.and_eq_true, and_self, true_and, and_true]; done))
    refine T_cond rfl (fun hc => ?_) (fun hc => ?_)
    · exact absurd (of_decide_eq_true hc) (by rw [hl]; simp)
    · repeat' first | refine T_seq_region rfl ?_ | refine T_region rfl ?_ | refine T_ret ?_ | refine T_block ?_ | refine T_skip ?_ | refine T_exit ?_ | (simp (maxSteps := 2000000) only [go_sem, Nat.reduceAdd, Nat.reduceMul, Nat.reduceBEq, Nat.reduceLeDiff, Nat.reduceLT, Nat.reduceEqDiff]; try rfl) | refine T_seq ?_ | (refine And.intro ?_ ?_; focus (intros; simp_all only [Bool.or_eq_false_iff, Bool.or_eq_true, Bool.and_eq_true, and_self, true_and, and_true]; done))
      refine ⟨by rw [hcs, hl]; simp [cntL], ⟨(by simp [Mk.put, hl, mkL]), fun hne => (hne (by simp [Mk.put, hl, mkL])).elim, fun i x hx => by simp [Mk.put, hl, mkL] at hx, fun x hx => by simp [Mk.put, hl, mkL] at hx, hs.2.2.2.2⟩, fun hne => (hne (by simp [Mk.put, hl, mkL])).elim⟩
  obtain ⟨g, e, spare, ha, hb, hsp⟩ := own_row (by decide) hs ho hl
  have hsz : Enc.size DPoint = 2 := rfl
  have hfoot : g ∈ Foot.foot s := by
    rw [show Foot.foot s = _ from Sl.foot_ne hl]
    simp [Sl.blkOf, ha]

  refine Cw_of_T (fun A W => by simp) Try.func96 rfl rfl (by simp)  (fun b hb => Foot.dom ho b hb) fun W0 hW => ?_
  repeat' first | refine T_seq_region rfl ?_ | refine T_region rfl ?_ | refine T_ret ?_ | refine T_block ?_ | refine T_skip ?_ | refine T_exit ?_ | (simp (maxSteps := 2000000) only [go_sem, Nat.reduceAdd, Nat.reduceMul, Nat.reduceBEq, Nat.reduceLeDiff, Nat.reduceLT, Nat.reduceEqDiff]; try rfl) | refine T_seq ?_ | (refine And.intro ?_ ?_; focus (intros; simp_all only [Bool.or_eq_false_iff, Bool.or_eq_true, Bool.and_eq_true, and_self, true_and, and_true]; done))
  refine T_loop (ι := Nat × Hp) (fun i => ⟨[(0, true, .c (.v s.val)), (1, true, .c (.v (.int .i64 (k + (cntL (s.l.take i.1) : Nat))))), (5, true, .c (.v (.int .i64 i.1)))], [], i.2, 0⟩) (fun i => i.1 ≤ s.l.length ∧ i.2 g = some (.cells (rowL (mkd s.l k i.1) spare).toArray e (0, 0)) ∧ ∀ x ∈ mkd s.l k i.1, Enc.ok i.2 x) (fun i => s.l.length - i.1) (0, h) ⟨Nat.zero_le _, by rw [mkd_zero]; exact hb, by rw [mkd_zero]; exact hs.2.2.2.1⟩ ?_ ?_
  · simp (maxSteps := 2000000) only [go_sem, Nat.reduceAdd, Nat.reduceMul, Nat.reduceBEq, Nat.reduceLeDiff, Nat.reduceLT, Nat.reduceEqDiff]
    exact ⟨svInt (by rw [cntL_nil]; omega), rfl⟩
  rintro ⟨i, hk'⟩ ⟨hi, hb0, hok⟩
  repeat' first | refine T_seq_region rfl ?_ | refine T_region rfl ?_ | refine T_ret ?_ | refine T_block ?_ | refine T_skip ?_ | refine T_exit ?_ | (simp (maxSteps := 2000000) only [go_sem, Nat.reduceAdd, Nat.reduceMul, Nat.reduceBEq, Nat.reduceLeDiff, Nat.reduceLT, Nat.reduceEqDiff]; try rfl) | refine T_seq ?_ | (refine And.intro ?_ ?_; focus (intros; simp_all only [Bool.or_eq_false_iff, Bool.or_eq_true, Bool.and_eq_true, and_self, true_and, and_true]; done))
  refine T_cond rfl (fun hd => ?_) (fun hd => ?_)
  · have hlt := lt_of_dec hd
    have hcnt := cntL_take hlt
    have hcle := cntL_take_le (l := s.l) (i := i + 1)

    have hc : Mk.cnt s.l[i] = 2 := rfl
    generalize hκ : k + ((cntL (s.l.take i) : Nat) : Int) = κ
    have hκ0 : 0 ≤ κ ∧ κ + 2 ≤ 4611686018427387904 := by omega
    have hlen : i * 2 + 2 ≤ (rowL (mkd s.l k i) spare).length := by rw [rowL_len, mkd_length, hsz]; omega
    generalize hX : rowL (mkd s.l k i) spare = X0 at hb0 hlen
    refine T_skip ?_
    simp (maxSteps := 2000000) only [go_sem, Nat.reduceAdd, Nat.reduceMul, Nat.reduceBEq, Nat.reduceLeDiff, Nat.reduceLT, Nat.reduceEqDiff]
    refine T_seq ?_
    refine T_block ?_

    refine T_seq_regionX [0, 0, 0, 0, 0, 0, 1] rfl ?_
    simp (maxSteps := 2000000) only [go_sem, Nat.reduceAdd, Nat.reduceMul, Nat.reduceBEq, Nat.reduceLeDiff, Nat.reduceLT, Nat.reduceEqDiff, ha, hlt, Option.map_some, add_mk, Option.isSome_some, Int.toNat_natCast, Nat.zero_add, Nat.add_zero, List.toList_toArray, Hp.ins_ins]
    refine vfn_val (fun _ => markText_fn _ _ (by omega)) ?_
    simp (maxSteps := 2000000) only [go_sem, Nat.reduceAdd, Nat.reduceMul, Nat.reduceBEq, Nat.reduceLeDiff, Nat.reduceLT, Nat.reduceEqDiff, ha, hlt, Option.map_some, add_mk, Option.isSome_some, Int.toNat_natCast, Nat.zero_add, Nat.add_zero, List.toList_toArray, Hp.ins_ins]
    refine vstoreS_one (by simp only [go_sem]) (by simp only [go_sem]) rfl rfl hb0 (.inr (hW _ hfoot)) (by simp only [List.size_toArray]; omega) ?_
    simp (maxSteps := 2000000) only [go_sem, Nat.reduceAdd, Nat.reduceMul, Nat.reduceBEq, Nat.reduceLeDiff, Nat.reduceLT, Nat.reduceEqDiff, ha, hlt, Option.map_some, add_mk, Option.isSome_some, Int.toNat_natCast, Nat.zero_add, Nat.add_zero, List.toList_toArray, Hp.ins_ins]
    refine T_seq_region rfl ?_
    simp (maxSteps := 2000000) only [go_sem, Nat.reduceAdd, Nat.reduceMul, Nat.reduceBEq, Nat.reduceLeDiff, Nat.reduceLT, Nat.reduceEqDiff]
    rw [wrap64 (by omega)]
    have hsl1 : (spl (i * 2) [.string (mkT (κ))] X0).length = X0.length := spl_len (by simp only [List.length_cons, List.length_nil]; omega)
    refine T_seq_regionX [0, 0, 0, 0, 0, 0, 0, 1] rfl ?_
    simp (maxSteps := 2000000) only [go_sem, Nat.reduceAdd, Nat.reduceMul, Nat.reduceBEq, Nat.reduceLeDiff, Nat.reduceLT, Nat.reduceEqDiff, ha, hlt, Option.map_some, add_mk, Option.isSome_some, Int.toNat_natCast, Nat.zero_add, Nat.add_zero, List.toList_toArray, Hp.ins_ins]
    refine ⟨by decide, ?_⟩
    refine vstoreS_one (by simp only [go_sem]) (by simp only [go_sem]) rfl rfl Hp.ins_same (.inr (hW _ hfoot)) (by simp only [List.size_toArray, hsl1]; omega) ?_
    simp (maxSteps := 2000000) only [go_sem, Nat.reduceAdd, Nat.reduceMul, Nat.reduceBEq, Nat.reduceLeDiff, Nat.reduceLT, Nat.reduceEqDiff, ha, hlt, Option.map_some, add_mk, Option.isSome_some, Int.toNat_natCast, Nat.zero_add, Nat.add_zero, List.toList_toArray, Hp.ins_ins]
    rw [show spl (i * 2 + 1) [.bool ((κ + 1).tmod 3 == 0)] (spl (i * 2) [.string (mkT (κ))] X0) = spl (i * 2) [.string (mkT (κ)), .bool ((κ + 1).tmod 3 == 0)] X0 from spl_next (m := [.string (mkT (κ))]) (by simp only [List.length_cons, List.length_nil]; omega)]
    refine T_region rfl ?_
    simp (maxSteps := 2000000) only [go_sem, Nat.reduceAdd, Nat.reduceMul, Nat.reduceBEq, Nat.reduceLeDiff, Nat.reduceLT, Nat.reduceEqDiff]
    rw [wrap64 (by omega)]
    repeat' first | refine T_seq_region rfl ?_ | refine T_region rfl ?_ | refine T_ret ?_ | refine T_block ?_ | refine T_skip ?_ | refine T_exit ?_ | (simp (maxSteps := 2000000) only [go_sem, Nat.reduceAdd, Nat.reduceMul, Nat.reduceBEq, Nat.reduceLeDiff, Nat.reduceLT, Nat.reduceEqDiff]; try rfl) | refine T_seq ?_ | (refine And.intro ?_ ?_; focus (intros; simp_all only [Bool.or_eq_false_iff, Bool.or_eq_true, Bool.and_eq_true, and_self, true_and, and_true]; done))
    refine ⟨(i + 1, hk'.ins g (.cells (spl (i * 2) [.string (mkT (κ)), .bool ((κ + 1).tmod 3 == 0)] X0).toArray e (0, 0))), ⟨hlt, ?_, fun x hx => ?_⟩, by simp only; omega, ?_⟩
    · rw [← mkd_next hlt, ← rowL_set (by rw [mkd_length]; exact hlt), hX]
      simp only
      rw [Hp.ins_same]
      congr 4
      simp only [show k + ((cntL (List.take i s.l) : Nat) : Int) = κ from hκ, Mk.put, Enc.enc, DPoint.cells]
      try simp only [mkB, Int.add_assoc, Int.reduceAdd]
      try rfl
    · simp only at hx ⊢
      rw [← mkd_next hlt] at hx
      rcases List.mem_or_eq_of_mem_set hx with hx | rfl
      · exact hok x hx
      · exact (show StrOk _ from Nat.le_trans (mkT_size _) (by decide))
    · simp (maxSteps := 2000000) only [go_sem, Nat.reduceAdd, Nat.reduceMul, Nat.reduceBEq, Nat.reduceLeDiff, Nat.reduceLT, Nat.reduceEqDiff]
      exact ⟨svInt (by rw [hcnt, hc]; omega), svInt (wrapS hlt (by omega))⟩
  · have hge := ge_of_dec hd
    have hie : i = s.l.length := Nat.le_antisymm hi hge
    repeat' first | refine T_seq_region rfl ?_ | refine T_region rfl ?_ | refine T_ret ?_ | refine T_block ?_ | refine T_skip ?_ | refine T_exit ?_ | (simp (maxSteps := 2000000) only [go_sem, Nat.reduceAdd, Nat.reduceMul, Nat.reduceBEq, Nat.reduceLeDiff, Nat.reduceLT, Nat.reduceEqDiff]; try rfl) | refine T_seq ?_ | (refine And.intro ?_ ?_; focus (intros; simp_all only [Bool.or_eq_false_iff, Bool.or_eq_true, Bool.and_eq_true, and_self, true_and, and_true]; done))
    have hp : mkd s.l k i = (Mk.put s k).l := mkd_all hge
    rw [hp] at hb0 hok
    have hll : (Mk.put s k).l.length = s.l.length := mkL_length
    have hsl := row_sl (α := DPoint) (h := hk') (g := g) (cap := s.cap) (by decide) hb0 (by rw [hll]; exact hs.1) hs.2.2.2.2 hok
    have hsv : (Sl.mk (some ⟨g, 0, none⟩) s.cap (Mk.put s k).l : Sl DPoint) = Mk.put s k := by rw [← ha]; rfl
    rw [hsv] at hsl
    refine ⟨by rw [hie, List.take_length, hcs], hsl, fun _ => ⟨⟨g, _, e, ha, hb0, ?_⟩, fun x hx => trivial⟩⟩
    rw [List.size_toArray, rowL_len, hll, hsp]
    rfl

theorem markSegmentS_fn (s : Sl DSegment) (k : Int) (h : Hp) (hs : s.Ok h) (ho : Foot.own h s) (hn : (Foot.foot s).Nodup) (hk : 0 ≤ k ∧ k + (Mk.cnt s : Nat) ≤ 4611686018427387904) : Cw Try.prog 97 [s.val, .int .i64 k] h (fun b => b ∈ Foot.foot s) fun v h' => v = .int .i64 (k + (Mk.cnt s : Nat)) ∧ Enc.ok h' (Mk.put s k) ∧ Foot.own h' (Mk.put s k) := by
  have hmax := hs.max
  have hcs : Mk.cnt s = cntL s.l := rfl
  by_cases hl : s.l = []
  · refine Cw_of_T (fun A W => by simp) Try.func97 rfl rfl (by simp)  (fun b hb => Foot.dom ho b hb) fun W0 hW => ?_
    repeat' first | refine T_seq_region rfl ?_ | refine T_region rfl ?_ | refine T_ret ?_ | refine T_block ?_ | refine T_skip ?_ | refine T_exit ?_ | (simp (maxSteps := 2000000) only [go_sem, Nat.reduceAdd, Nat.reduceMul, Nat.reduceBEq, Nat.reduceLeDiff, Nat.reduceLT, Nat.reduceEqDiff]; try rfl) | refine T_seq ?_ | (refine And.intro ?_ ?_; focus (intros; simp_all only [Bool.or_eq_false_iff, Bool.or_eq_true, Bool.and_eq_true, and_self, true_and, and_true]; done))
    refine T_loop (ι := Unit) (fun _ => ⟨[(0, true, .c (.v s.val)), (1, true, .c (.v (.int .i64 k))), (5, true, .c (.v (.int .i64 0)))], [], h, 0⟩) (fun _ => True) (fun _ => 0) () trivial ?_ ?_
    · simp (maxSteps := 2000000) only [go_sem, Nat.reduceAdd, Nat.reduceMul, Nat.reduceBEq, Nat.reduceLeDiff, Nat.reduceLT, Nat.reduceEqDiff]
    rintro _ _
    repeat' first | refine T_seq_region rfl ?_ | refine T_region rfl ?_ | refine T_ret ?_ | refine T_block ?_ | refine T_skip ?_ | refine T_exit ?_ | (simp (maxSteps := 2000000) only [go_sem, Nat.reduceAdd, Nat.reduceMul, Nat.reduceBEq, Nat.reduceLeDiff, Nat.reduceLT, Nat.reduceEqDiff]; try rfl) | refine T_seq ?_ | (refine And.intro ?_ ?_; focus (intros; simp_all only [Bool.or_eq_false_iff, Bool.or_eq_true, Bool.and_eq_true, and_self, true_and, and_true]; done))
    refine T_cond rfl (fun hc => ?_) (fun hc => ?_)
    · exact absurd (of_decide_eq_true hc) (by rw [hl]; simp)
    · repeat' first | refine T_seq_region rfl ?_ | refine T_region rfl ?_ | refine T_ret ?_ | refine T_block ?_ | refine T_skip ?_ | refine T_exit ?_ | (simp (maxSteps := 2000000) only [go_sem, Nat.reduceAdd, Nat.reduceMul, Nat.reduceBEq, Nat.reduceLeDiff, Nat.reduceLT, Nat.reduceEqDiff]; try rfl) | refine T_seq ?_ | (refine And.intro ?_ ?_; focus (intros; simp_all only [Bool.or_eq_false_iff, Bool.or_eq_true, Bool.and_eq_true, and_self, true_and, and_true]; done))
      refine ⟨by rw [hcs, hl]; simp [cntL], ⟨(by simp [Mk.put, hl, mkL]), fun hne => (hne (by simp [Mk.put, hl, mkL])).elim, fun i x hx => by simp [Mk.put, hl, mkL] at hx, fun x hx => by simp [Mk.put, hl, mkL] at hx, hs.2.2.2.2⟩, fun hne => (hne (by simp [Mk.put, hl, mkL])).elim⟩
  obtain ⟨g, e, spare, ha, hb, hsp⟩ := own_row (by decide) hs ho hl
  have hsz : Enc.size DSegment = 5 := rfl
  have hfoot : g ∈ Foot.foot s := by
    rw [show Foot.foot s = _ from Sl.foot_ne hl]
    simp [Sl.blkOf, ha]

  refine Cw_of_T (fun A W => by simp) Try.func97 rfl rfl (by simp)  (fun b hb => Foot.dom ho b hb) fun W0 hW => ?_
  repeat' first | refine T_seq_region rfl ?_ | refine T_region rfl ?_ | refine T_ret ?_ | refine T_block ?_ | refine T_skip ?_ | refine T_exit ?_ | (simp (maxSteps := 2000000) only [go_sem, Nat.reduceAdd, Nat.reduceMul, Nat.reduceBEq, Nat.reduceLeDiff, Nat.reduceLT, Nat.reduceEqDiff]; try rfl) | refine T_seq ?_ | (refine And.intro ?_ ?_; focus (intros; simp_all only [Bool.or_eq_false_iff, Bool.or_eq_true, Bool.and_eq_true, and_self, true_and, and_true]; done))
  refine T_loop (ι := Nat × Hp) (fun i => ⟨[(0, true, .c (.v s.val)), (1, true, .c (.v (.int .i64 (k + (cntL (s.l.take i.1) : Nat))))), (5, true, .c (.v (.int .i64 i.1)))], [], i.2, 0⟩) (fun i => i.1 ≤ s.l.length ∧ i.2 g = some (.cells (rowL (mkd s.l k i.1) spare).toArray e (0, 0)) ∧ ∀ x ∈ mkd s.l k i.1, Enc.ok i.2 x) (fun i => s.l.length - i.1) (0, h) ⟨Nat.zero_le _, by rw [mkd_zero]; exact hb, by rw [mkd_zero]; exact hs.2.2.2.1⟩ ?_ ?_
  · simp (maxSteps := 2000000) only [go_sem, Nat.reduceAdd, Nat.reduceMul, Nat.reduceBEq, Nat.reduceLeDiff, Nat.reduceLT, Nat.reduceEqDiff]
    exact ⟨svInt (by rw [cntL_nil]; omega), rfl⟩
  rintro ⟨i, hk'⟩ ⟨hi, hb0, hok⟩
  repeat' first | refine T_seq_region rfl ?_ | refine T_region rfl ?_ | refine T_ret ?_ | refine T_block ?_ | refine T_skip ?_ | refine T_exit ?_ | (simp (maxSteps := 2000000) only [go_sem, Nat.reduceAdd, Nat.reduceMul, Nat.reduceBEq, Nat.reduceLeDiff, Nat.reduceLT, Nat.reduceEqDiff]; try rfl) | refine T_seq ?_ | (refine And.intro ?_ ?_; focus (intros; simp_all only [Bool.or_eq_false_iff, Bool.or_eq_true, Bool.and_eq_true, and_self, true_and, and_true]; done))
  refine T_cond rfl (fun hd => ?_) (fun hd => ?_)
  · have hlt := lt_of_dec hd
    have hcnt := cntL_take hlt
    have hcle := cntL_take_le (l := s.l) (i := i + 1)

    have hc : Mk.cnt s.l[i] = 5 := rfl
    generalize hκ : k + ((cntL (s.l.take i) : Nat) : Int) = κ
    have hκ0 : 0 ≤ κ ∧ κ + 5 ≤ 4611686018427387904 := by omega
    have hlen : i * 5 + 5 ≤ (rowL (mkd s.l k i) spare).length := by rw [rowL_len, mkd_length, hsz]; omega
    generalize hX : rowL (mkd s.l k i) spare = X0 at hb0 hlen
    refine T_skip ?_
    simp (maxSteps := 2000000) only [go_sem, Nat.reduceAdd, Nat.reduceMul, Nat.reduceBEq, Nat.reduceLeDiff, Nat.reduceLT, Nat.reduceEqDiff]
    refine T_seq ?_
    refine T_block ?_

    refine T_seq_regionX [0, 0, 0, 0, 0, 1] rfl ?_
    simp (maxSteps := 2000000) only [go_sem, Nat.reduceAdd, Nat.reduceMul, Nat.reduceBEq, Nat.reduceLeDiff, Nat.reduceLT, Nat.reduceEqDiff, ha, hlt, Option.map_some, add_mk, Option.isSome_some, Int.toNat_natCast, Nat.zero_add, Nat.add_zero, List.toList_toArray, Hp.ins_ins]
    refine vstoreS_one (by simp only [go_sem]) (by simp only [go_sem]) rfl rfl hb0 (.inr (hW _ hfoot)) (by simp only [List.size_toArray]; omega) ?_
    simp (maxSteps := 2000000) only [go_sem, Nat.reduceAdd, Nat.reduceMul, Nat.reduceBEq, Nat.reduceLeDiff, Nat.reduceLT, Nat.reduceEqDiff, ha, hlt, Option.map_some, add_mk, Option.isSome_some, Int.toNat_natCast, Nat.zero_add, Nat.add_zero, List.toList_toArray, Hp.ins_ins]
    refine T_seq_region rfl ?_
    simp (maxSteps := 2000000) only [go_sem, Nat.reduceAdd, Nat.reduceMul, Nat.reduceBEq, Nat.reduceLeDiff, Nat.reduceLT, Nat.reduceEqDiff]
    rw [wrap64 (by omega)]
    have hsl1 : (spl (i * 5) [.int .i64 (κ)] X0).length = X0.length := spl_len (by simp only [List.length_cons, List.length_nil]; omega)
    refine T_seq_regionX [0, 0, 0, 0, 0, 1] rfl ?_
    simp (maxSteps := 2000000) only [go_sem, Nat.reduceAdd, Nat.reduceMul, Nat.reduceBEq, Nat.reduceLeDiff, Nat.reduceLT, Nat.reduceEqDiff, ha, hlt, Option.map_some, add_mk, Option.isSome_some, Int.toNat_natCast, Nat.zero_add, Nat.add_zero, List.toList_toArray, Hp.ins_ins]
    refine vstoreS_one (by simp only [go_sem]) (by simp only [go_sem]) rfl rfl Hp.ins_same (.inr (hW _ hfoot)) (by simp only [List.size_toArray, hsl1]; omega) ?_
    simp (maxSteps := 2000000) only [go_sem, Nat.reduceAdd, Nat.reduceMul, Nat.reduceBEq, Nat.reduceLeDiff, Nat.reduceLT, Nat.reduceEqDiff, ha, hlt, Option.map_some, add_mk, Option.isSome_some, Int.toNat_natCast, Nat.zero_add, Nat.add_zero, List.toList_toArray, Hp.ins_ins]
    rw [show spl (i * 5 + 1) [.int .i64 (κ + 1)] (spl (i * 5) [.int .i64 (κ)] X0) = spl (i * 5) [.int .i64 (κ), .int .i64 (κ + 1)] X0 from spl_next (m := [.int .i64 (κ)]) (by simp only [List.length_cons, List.length_nil]; omega)]
    refine T_seq_region rfl ?_
    simp (maxSteps := 2000000) only [go_sem, Nat.reduceAdd, Nat.reduceMul, Nat.reduceBEq, Nat.reduceLeDiff, Nat.reduceLT, Nat.reduceEqDiff]
    rw [wrap64 (by omega)]
    have hsl2 : (spl (i * 5) [.int .i64 (κ), .int .i64 (κ + 1)] X0).length = X0.length := spl_len (by simp only [List.length_cons, List.length_nil]; omega)
    refine T_seq_regionX [0, 0, 0, 0, 0, 1] rfl ?_
    simp (maxSteps := 2000000) only [go_sem, Nat.reduceAdd, Nat.reduceMul, Nat.reduceBEq, Nat.reduceLeDiff, Nat.reduceLT, Nat.reduceEqDiff, ha, hlt, Option.map_some, add_mk, Option.isSome_some, Int.toNat_natCast, Nat.zero_add, Nat.add_zero, List.toList_toArray, Hp.ins_ins]
    refine vstoreS_one (by simp only [go_sem]) (by simp only [go_sem]) rfl rfl Hp.ins_same (.inr (hW _ hfoot)) (by simp only [List.size_toArray, hsl2]; omega) ?_
    simp (maxSteps := 2000000) only [go_sem, Nat.reduceAdd, Nat.reduceMul, Nat.reduceBEq, Nat.reduceLeDiff, Nat.reduceLT, Nat.reduceEqDiff, ha, hlt, Option.map_some, add_mk, Option.isSome_some, Int.toNat_natCast, Nat.zero_add, Nat.add_zero, List.toList_toArray, Hp.ins_ins]
    rw [show spl (i * 5 + 2) [.int .i64 (κ + 1 + 1)] (spl (i * 5) [.int .i64 (κ), .int .i64 (κ + 1)] X0) = spl (i * 5) [.int .i64 (κ), .int .i64 (κ + 1), .int .i64 (κ + 1 + 1)] X0 from spl_next (m := [.int .i64 (κ), .int .i64 (κ + 1)]) (by simp only [List.length_cons, List.length_nil]; omega)]
    refine T_seq_region rfl ?_
    simp (maxSteps := 2000000) only [go_sem, Nat.reduceAdd, Nat.reduceMul, Nat.reduceBEq, Nat.reduceLeDiff, Nat.reduceLT, Nat.reduceEqDiff]
    rw [wrap64 (by omega)]
    have hsl3 : (spl (i * 5) [.int .i64 (κ), .int .i64 (κ + 1), .int .i64 (κ + 1 + 1)] X0).length = X0.length := spl_len (by simp only [List.length_cons, List.length_nil]; omega)
    refine T_seq_regionX [0, 0, 0, 0, 0, 1] rfl ?_
    simp (maxSteps := 2000000) only [go_sem, Nat.reduceAdd, Nat.reduceMul, Nat.reduceBEq, Nat.reduceLeDiff, Nat.reduceLT, Nat.reduceEqDiff, ha, hlt, Option.map_some, add_mk, Option.isSome_some, Int.toNat_natCast, Nat.zero_add, Nat.add_zero, List.toList_toArray, Hp.ins_ins]
    refine vstoreS_one (by simp only [go_sem]) (by simp only [go_sem]) rfl rfl Hp.ins_same (.inr (hW _ hfoot)) (by simp only [List.size_toArray, hsl3]; omega) ?_
    simp (maxSteps := 2000000) only [go_sem, Nat.reduceAdd, Nat.reduceMul, Nat.reduceBEq, Nat.reduceLeDiff, Nat.reduceLT, Nat.reduceEqDiff, ha, hlt, Option.map_some, add_mk, Option.isSome_some, Int.toNat_natCast, Nat.zero_add, Nat.add_zero, List.toList_toArray, Hp.ins_ins]
    rw [show spl (i * 5 + 3) [.int .i64 (κ + 1 + 1 + 1)] (spl (i * 5) [.int .i64 (κ), .int .i64 (κ + 1), .int .i64 (κ + 1 + 1)] X0) = spl (i * 5) [.int .i64 (κ), .int .i64 (κ + 1), .int .i64 (κ + 1 + 1), .int .i64 (κ + 1 + 1 + 1)] X0 from spl_next (m := [.int .i64 (κ), .int .i64 (κ + 1), .int .i64 (κ + 1 + 1)]) (by simp only [List.length_cons, List.length_nil]; omega)]
    refine T_seq_region rfl ?_
    simp (maxSteps := 2000000) only [go_sem, Nat.reduceAdd, Nat.reduceMul, Nat.reduceBEq, Nat.reduceLeDiff, Nat.reduceLT, Nat.reduceEqDiff]
    rw [wrap64 (by omega)]
    have hsl4 : (spl (i * 5) [.int .i64 (κ), .int .i64 (κ + 1), .int .i64 (κ + 1 + 1), .int .i64 (κ + 1 + 1 + 1)] X0).length = X0.length := spl_len (by simp only [List.length_cons, List.length_nil]; omega)
    refine T_seq_regionX [0, 0, 0, 0, 0, 0, 0, 1] rfl ?_
    simp (maxSteps := 2000000) only [go_sem, Nat.reduceAdd, Nat.reduceMul, Nat.reduceBEq, Nat.reduceLeDiff, Nat.reduceLT, Nat.reduceEqDiff, ha, hlt, Option.map_some, add_mk, Option.isSome_some, Int.toNat_natCast, Nat.zero_add, Nat.add_zero, List.toList_toArray, Hp.ins_ins]
    refine ⟨by decide, ?_⟩
    refine vstoreS_one (by simp only [go_sem]) (by simp only [go_sem]) rfl rfl Hp.ins_same (.inr (hW _ hfoot)) (by simp only [List.size_toArray, hsl4]; omega) ?_
    simp (maxSteps := 2000000) only [go_sem, Nat.reduceAdd, Nat.reduceMul, Nat.reduceBEq, Nat.reduceLeDiff, Nat.reduceLT, Nat.reduceEqDiff, ha, hlt, Option.map_some, add_mk, Option.isSome_some, Int.toNat_natCast, Nat.zero_add, Nat.add_zero, List.toList_toArray, Hp.ins_ins]
    rw [show spl (i * 5 + 4) [.bool ((κ + 1 + 1 + 1 + 1).tmod 3 == 0)] (spl (i * 5) [.int .i64 (κ), .int .i64 (κ + 1), .int .i64 (κ + 1 + 1), .int .i64 (κ + 1 + 1 + 1)] X0) = spl (i * 5) [.int .i64 (κ), .int .i64 (κ + 1), .int .i64 (κ + 1 + 1), .int .i64 (κ + 1 + 1 + 1), .bool ((κ + 1 + 1 + 1 + 1).tmod 3 == 0)] X0 from spl_next (m := [.int .i64 (κ), .int .i64 (κ + 1), .int .i64 (κ + 1 + 1), .int .i64 (κ + 1 + 1 + 1)]) (by simp only [List.length_cons, List.length_nil]; omega)]
    refine T_region rfl ?_
    simp (maxSteps := 2000000) only [go_sem, Nat.reduceAdd, Nat.reduceMul, Nat.reduceBEq, Nat.reduceLeDiff, Nat.reduceLT, Nat.reduceEqDiff]
    rw [wrap64 (by omega)]
    repeat' first | refine T_seq_region rfl ?_ | refine T_region rfl ?_ | refine T_ret ?_ | refine T_block ?_ | refine T_skip ?_ | refine T_exit ?_ | (simp (maxSteps := 2000000) only [go_sem, Nat.reduceAdd, Nat.reduceMul, Nat.reduceBEq, Nat.reduceLeDiff, Nat.reduceLT, Nat.reduceEqDiff]; try rfl) | refine T_seq ?_ | (refine And.intro ?_ ?_; focus (intros; simp_all only [Bool.or_eq_false_iff, Bool.or_eq_true, Bool.and_eq_true, and_self, true_and, and_true]; done))
    refine ⟨(i + 1, hk'.ins g (.cells (spl (i * 5) [.int .i64 (κ), .int .i64 (κ + 1), .int .i64 (κ + 1 + 1), .int .i64 (κ + 1 + 1 + 1), .bool ((κ + 1 + 1 + 1 + 1).tmod 3 == 0)] X0).toArray e (0, 0))), ⟨hlt, ?_, fun x hx => ?_⟩, by simp only; omega, ?_⟩
    · rw [← mkd_next hlt, ← rowL_set (by rw [mkd_length]; exact hlt), hX]
      simp only
      rw [Hp.ins_same]
      congr 4
      simp only [show k + ((cntL (List.take i s.l) : Nat) : Int) = κ from hκ, Mk.put, Enc.enc, DSegment.cells]
      try simp only [mkB, Int.add_assoc, Int.reduceAdd]
      try rfl
    · simp only at hx ⊢
      rw [← mkd_next hlt] at hx
      rcases List.mem_or_eq_of_mem_set hx with hx | rfl
      · exact hok x hx
      · exact (show I64 _ ∧ I64 _ ∧ I64 _ ∧ I64 _ from by unfold I64; simp only [Mk.put]; omega)
    · simp (maxSteps := 2000000) only [go_sem, Nat.reduceAdd, Nat.reduceMul, Nat.reduceBEq, Nat.reduceLeDiff, Nat.reduceLT, Nat.reduceEqDiff]
      exact ⟨svInt (by rw [hcnt, hc]; omega), svInt (wrapS hlt (by omega))⟩
  · have hge := ge_of_dec hd
    have hie : i = s.l.length := Nat.le_antisymm hi hge
    repeat' first | refine T_seq_region rfl ?_ | refine T_region rfl ?_ | refine T_ret ?_ | refine T_block ?_ | refine T_skip ?_ | refine T_exit ?_ | (simp (maxSteps := 2000000) only [go_sem, Nat.reduceAdd, Nat.reduceMul, Nat.reduceBEq, Nat.reduceLeDiff, Nat.reduceLT, Nat.reduceEqDiff]; try rfl) | refine T_seq ?_ | (refine And.intro ?_ ?_; focus (intros; simp_all only [Bool.or_eq_false_iff, Bool.or_eq_true, Bool.and_eq_true, and_self, true_and, and_true]; done))
    have hp : mkd s.l k i = (Mk.put s k).l := mkd_all hge
    rw [hp] at hb0 hok
    have hll : (Mk.put s k).l.length = s.l.length := mkL_length
    have hsl := row_sl (α := DSegment) (h := hk') (g := g) (cap := s.cap) (by decide) hb0 (by rw [hll]; exact hs.1) hs.2.2.2.2 hok
    have hsv : (Sl.mk (some ⟨g, 0, none⟩) s.cap (Mk.put s k).l : Sl DSegment) = Mk.put s k := by rw [← ha]; rfl
    rw [hsv] at hsl
    refine ⟨by rw [hie, List.take_length, hcs], hsl, fun _ => ⟨⟨g, _, e, ha, hb0, ?_⟩, fun x hx => trivial⟩⟩
    rw [List.size_toArray, rowL_len, hll, hsp]
    rfl

theorem markShipS_fn (s : Sl DShip) (k : Int) (h : Hp) (hs : s.Ok h) (ho : Foot.own h s) (hn : (Foot.foot s).Nodup) (hk : 0 ≤ k ∧ k + (Mk.cnt s : Nat) ≤ 4611686018427387904) : Cw Try.prog 46 [s.val, .int .i64 k] h (fun b => b ∈ Foot.foot s) fun v h' => v = .int .i64 (k + (Mk.cnt s : Nat)) ∧ Enc.ok h' (Mk.put s k) ∧ Foot.own h' (Mk.put s k) := by
  have hmax := hs.max
  have hcs : Mk.cnt s = cntL s.l := rfl
  by_cases hl : s.l = []
  · refine Cw_of_T (fun A W => by simp) Try.func46 rfl rfl (by simp)  (fun b hb => Foot.dom ho b hb) fun W0 hW => ?_
    repeat' first | refine T_seq_region rfl ?_ | refine T_region rfl ?_ | refine T_ret ?_ | refine T_block ?_ | refine T_skip ?_ | refine T_exit ?_ | (simp (maxSteps := 2000000) only [go_sem, Nat.reduceAdd, Nat.reduceMul, Nat.reduceBEq, Nat.reduceLeDiff, Nat.reduceLT, Nat.reduceEqDiff]; try rfl) | refine T_seq ?_ | (refine And.intro ?_ ?_; focus (intros; simp_all only [Bool.or_eq_false_iff, Bool.or_eq_true, Bool.and_eq_true, and_self, true_and, and_true]; done))
    refine T_loop (ι := Unit) (fun _ => ⟨[(0, true, .c (.v s.val)), (1, true, .c (.v (.int .i64 k))), (5, true, .c (.v (.int .i64 0)))], [], h, 0⟩) (fun _ => True) (fun _ => 0) () trivial ?_ ?_
    · simp (maxSteps := 2000000) only [go_sem, Nat.reduceAdd, Nat.reduceMul, Nat.reduceBEq, Nat.reduceLeDiff, Nat.reduceLT, Nat.reduceEqDiff]
    rintro _ _
    repeat' first | refine T_seq_region rfl ?_ | refine T_region rfl ?_ | refine T_ret ?_ | refine T_block ?_ | refine T_skip ?_ | refine T_exit ?_ | (simp (maxSteps := 2000000) only [go_sem, Nat.reduceAdd, Nat.reduceMul, Nat.reduceBEq, Nat.reduceLeDiff, Nat.reduceLT, Nat.reduceEqDiff]; try rfl) | refine T_seq ?_ | (refine And.intro ?_ ?_; focus (intros; simp_all only [Bool.or_eq_false_iff, Bool.or_eq_true, Bool.and_eq_true, and_self, true_and, and_true]; done))
    refine T_cond rfl (fun hc => ?_) (fun hc => ?_)
    · exact absurd (of_decide_eq_true hc) (by rw [hl]; simp)
    · repeat' first | refine T_seq_region rfl ?_ | refine T_region rfl ?_ | refine T_ret ?_ | refine T_block ?_ | refine T_skip ?_ | refine T_exit ?_ | (simp (maxSteps := 2000000) only [go_sem, Nat.reduceAdd, Nat.reduceMul, Nat.reduceBEq, Nat.reduceLeDiff, Nat.reduceLT, Nat.reduceEqDiff]; try rfl) | refine T_seq ?_ | (refine And.intro ?_ ?_; focus (intros; simp_all only [Bool.or_eq_false_iff, Bool.or_eq_true, Bool.and_eq_true, and_self, true_and, and_true]; done))
      refine ⟨by rw [hcs, hl]; simp [cntL], ⟨(by simp [Mk.put, hl, mkL]), fun hne => (hne (by simp [Mk.put, hl, mkL])).elim, fun i x hx => by simp [Mk.put, hl, mkL] at hx, fun x hx => by simp [Mk.put, hl, mkL] at hx, hs.2.2.2.2⟩, fun hne => (hne (by simp [Mk.put, hl, mkL])).elim⟩
  obtain ⟨g, e, spare, ha, hb, hsp⟩ := own_row (by decide) hs ho hl
  have hsz : Enc.size DShip = 6 := rfl
  have hfoot : g ∈ Foot.foot s := by
    rw [show Foot.foot s = _ from Sl.foot_ne hl]
    simp [Sl.blkOf, ha]

  refine Cw_of_T (fun A W => by simp) Try.func46 rfl rfl (by simp)  (fun b hb => Foot.dom ho b hb) fun W0 hW => ?_
  repeat' first | refine T_seq_region rfl ?_ | refine T_region rfl ?_ | refine T_ret ?_ | refine T_block ?_ | refine T_skip ?_ | refine T_exit ?_ | (simp (maxSteps := 2000000) only [go_sem, Nat.reduceAdd, Nat.reduceMul, Nat.reduceBEq, Nat.reduceLeDiff, Nat.reduceLT, Nat.reduceEqDiff]; try rfl) | refine T_seq ?_ | (refine And.intro ?_ ?_; focus (intros; simp_all only [Bool.or_eq_false_iff, Bool.or_eq_true, Bool.and_eq_true, and_self, true_and, and_true]; done))
  refine T_loop (ι := Nat × Hp) (fun i => ⟨[(0, true, .c (.v s.val)), (1, true, .c (.v (.int .i64 (k + (cntL (s.l.take i.1) : Nat))))), (5, true, .c (.v (.int .i64 i.1)))], [], i.2, 0⟩) (fun i => i.1 ≤ s.l.length ∧ i.2 g = some (.cells (rowL (mkd s.l k i.1) spare).toArray e (0, 0)) ∧ ∀ x ∈ mkd s.l k i.1, Enc.ok i.2 x) (fun i => s.l.length - i.1) (0, h) ⟨Nat.zero_le _, by rw [mkd_zero]; exact hb, by rw [mkd_zero]; exact hs.2.2.2.1⟩ ?_ ?_
  · simp (maxSteps := 2000000) only [go_sem, Nat.reduceAdd, Nat.reduceMul, Nat.reduceBEq, Nat.reduceLeDiff, Nat.reduceLT, Nat.reduceEqDiff]
    exact ⟨svInt (by rw [cntL_nil]; omega), rfl⟩
  rintro ⟨i, hk'⟩ ⟨hi, hb0, hok⟩
  repeat' first | refine T_seq_region rfl ?_ | refine T_region rfl ?_ | refine T_ret ?_ | refine T_block ?_ | refine T_skip ?_ | refine T_exit ?_ | (simp (maxSteps := 2000000) only [go_sem, Nat.reduceAdd, Nat.reduceMul, Nat.reduceBEq, Nat.reduceLeDiff, Nat.reduceLT, Nat.reduceEqDiff]; try rfl) | refine T_seq ?_ | (refine And.intro ?_ ?_; focus (intros; simp_all only [Bool.or_eq_false_iff, Bool.or_eq_true, Bool.and_eq_true, and_self, true_and, and_true]; done))
  refine T_cond rfl (fun hd => ?_) (fun hd => ?_)
  · have hlt := lt_of_dec hd
    have hcnt := cntL_take hlt
    have hcle := cntL_take_le (l := s.l) (i := i + 1)

    have hc : Mk.cnt s.l[i] = 6 := rfl
    generalize hκ : k + ((cntL (s.l.take i) : Nat) : Int) = κ
    have hκ0 : 0 ≤ κ ∧ κ + 6 ≤ 4611686018427387904 := by omega
    have hlen : i * 6 + 6 ≤ (rowL (mkd s.l k i) spare).length := by rw [rowL_len, mkd_length, hsz]; omega
    generalize hX : rowL (mkd s.l k i) spare = X0 at hb0 hlen
    refine T_skip ?_
    simp (maxSteps := 2000000) only [go_sem, Nat.reduceAdd, Nat.reduceMul, Nat.reduceBEq, Nat.reduceLeDiff, Nat.reduceLT, Nat.reduceEqDiff]
    refine T_seq ?_
    refine T_block ?_

    refine T_seq_regionX [0, 0, 0, 0, 0, 0, 1] rfl ?_
    simp (maxSteps := 2000000) only [go_sem, Nat.reduceAdd, Nat.reduceMul, Nat.reduceBEq, Nat.reduceLeDiff, Nat.reduceLT, Nat.reduceEqDiff, ha, hlt, Option.map_some, add_mk, Option.isSome_some, Int.toNat_natCast, Nat.zero_add, Nat.add_zero, List.toList_toArray, Hp.ins_ins]
    refine vfn_val (fun _ => markText_fn _ _ (by omega)) ?_
    simp (maxSteps := 2000000) only [go_sem, Nat.reduceAdd, Nat.reduceMul, Nat.reduceBEq, Nat.reduceLeDiff, Nat.reduceLT, Nat.reduceEqDiff, ha, hlt, Option.map_some, add_mk, Option.isSome_some, Int.toNat_natCast, Nat.zero_add, Nat.add_zero, List.toList_toArray, Hp.ins_ins]
    refine vstoreS_one (by simp only [go_sem]) (by simp only [go_sem]) rfl rfl hb0 (.inr (hW _ hfoot)) (by simp only [List.size_toArray]; omega) ?_
    simp (maxSteps := 2000000) only [go_sem, Nat.reduceAdd, Nat.reduceMul, Nat.reduceBEq, Nat.reduceLeDiff, Nat.reduceLT, Nat.reduceEqDiff, ha, hlt, Option.map_some, add_mk, Option.isSome_some, Int.toNat_natCast, Nat.zero_add, Nat.add_zero, List.toList_toArray, Hp.ins_ins]
    refine T_seq_region rfl ?_
    simp (maxSteps := 2000000) only [go_sem, Nat.reduceAdd, Nat.reduceMul, Nat.reduceBEq, Nat.reduceLeDiff, Nat.reduceLT, Nat.reduceEqDiff]
    rw [wrap64 (by omega)]
    have hsl1 : (spl (i * 6) [.string (mkT (κ))] X0).length = X0.length := spl_len (by simp only [List.length_cons, List.length_nil]; omega)
    refine T_seq_regionX [0, 0, 0, 0, 0, 1] rfl ?_
    simp (maxSteps := 2000000) only [go_sem, Nat.reduceAdd, Nat.reduceMul, Nat.reduceBEq, Nat.reduceLeDiff, Nat.reduceLT, Nat.reduceEqDiff, ha, hlt, Option.map_some, add_mk, Option.isSome_some, Int.toNat_natCast, Nat.zero_add, Nat.add_zero, List.toList_toArray, Hp.ins_ins]
    refine vstoreS_one (by simp only [go_sem]) (by simp only [go_sem]) rfl rfl Hp.ins_same (.inr (hW _ hfoot)) (by simp only [List.size_toArray, hsl1]; omega) ?_
    simp (maxSteps := 2000000) only [go_sem, Nat.reduceAdd, Nat.reduceMul, Nat.reduceBEq, Nat.reduceLeDiff, Nat.reduceLT, Nat.reduceEqDiff, ha, hlt, Option.map_some, add_mk, Option.isSome_some, Int.toNat_natCast, Nat.zero_add, Nat.add_zero, List.toList_toArray, Hp.ins_ins]
    rw [show spl (i * 6 + 1) [.int .i64 (κ + 1)] (spl (i * 6) [.string (mkT (κ))] X0) = spl (i * 6) [.string (mkT (κ)), .int .i64 (κ + 1)] X0 from spl_next (m := [.string (mkT (κ))]) (by simp only [List.length_cons, List.length_nil]; omega)]
    refine T_seq_region rfl ?_
    simp (maxSteps := 2000000) only [go_sem, Nat.reduceAdd, Nat.reduceMul, Nat.reduceBEq, Nat.reduceLeDiff, Nat.reduceLT, Nat.reduceEqDiff]
    rw [wrap64 (by omega)]
    have hsl2 : (spl (i * 6) [.string (mkT (κ)), .int .i64 (κ + 1)] X0).length = X0.length := spl_len (by simp only [List.length_cons, List.length_nil]; omega)
    refine T_seq_regionX [0, 0, 0, 0, 0, 1] rfl ?_
    simp (maxSteps := 2000000) only [go_sem, Nat.reduceAdd, Nat.reduceMul, Nat.reduceBEq, Nat.reduceLeDiff, Nat.reduceLT, Nat.reduceEqDiff, ha, hlt, Option.map_some, add_mk, Option.isSome_some, Int.toNat_natCast, Nat.zero_add, Nat.add_zero, List.toList_toArray, Hp.ins_ins]
    refine vstoreS_one (by simp only [go_sem]) (by simp only [go_sem]) rfl rfl Hp.ins_same (.inr (hW _ hfoot)) (by simp only [List.size_toArray, hsl2]; omega) ?_
    simp (maxSteps := 2000000) only [go_sem, Nat.reduceAdd, Nat.reduceMul, Nat.reduceBEq, Nat.reduceLeDiff, Nat.reduceLT, Nat.reduceEqDiff, ha, hlt, Option.map_some, add_mk, Option.isSome_some, Int.toNat_natCast, Nat.zero_add, Nat.add_zero, List.toList_toArray, Hp.ins_ins]
    rw [show spl (i * 6 + 2) [.int .i64 (κ + 1 + 1)] (spl (i * 6) [.string (mkT (κ)), .int .i64 (κ + 1)] X0) = spl (i * 6) [.string (mkT (κ)), .int .i64 (κ + 1), .int .i64 (κ + 1 + 1)] X0 from spl_next (m := [.string (mkT (κ)), .int .i64 (κ + 1)]) (by simp only [List.length_cons, List.length_nil]; omega)]
    refine T_seq_region rfl ?_
    simp (maxSteps := 2000000) only [go_sem, Nat.reduceAdd, Nat.reduceMul, Nat.reduceBEq, Nat.reduceLeDiff, Nat.reduceLT, Nat.reduceEqDiff]
    rw [wrap64 (by omega)]
    have hsl3 : (spl (i * 6) [.string (mkT (κ)), .int .i64 (κ + 1), .int .i64 (κ + 1 + 1)] X0).length = X0.length := spl_len (by simp only [List.length_cons, List.length_nil]; omega)
    refine T_seq_regionX [0, 0, 0, 0, 0, 1] rfl ?_
    simp (maxSteps := 2000000) only [go_sem, Nat.reduceAdd, Nat.reduceMul, Nat.reduceBEq, Nat.reduceLeDiff, Nat.reduceLT, Nat.reduceEqDiff, ha, hlt, Option.map_some, add_mk, Option.isSome_some, Int.toNat_natCast, Nat.zero_add, Nat.add_zero, List.toList_toArray, Hp.ins_ins]
    refine vstoreS_one (by simp only [go_sem]) (by simp only [go_sem]) rfl rfl Hp.ins_same (.inr (hW _ hfoot)) (by simp only [List.size_toArray, hsl3]; omega) ?_
    simp (maxSteps := 2000000) only [go_sem, Nat.reduceAdd, Nat.reduceMul, Nat.reduceBEq, Nat.reduceLeDiff, Nat.reduceLT, Nat.reduceEqDiff, ha, hlt, Option.map_some, add_mk, Option.isSome_some, Int.toNat_natCast, Nat.zero_add, Nat.add_zero, List.toList_toArray, Hp.ins_ins]
    rw [show spl (i * 6 + 3) [.int .i64 (κ + 1 + 1 + 1)] (spl (i * 6) [.string (mkT (κ)), .int .i64 (κ + 1), .int .i64 (κ + 1 + 1)] X0) = spl (i * 6) [.string (mkT (κ)), .int .i64 (κ + 1), .int .i64 (κ + 1 + 1), .int .i64 (κ + 1 + 1 + 1)] X0 from spl_next (m := [.string (mkT (κ)), .int .i64 (κ + 1), .int .i64 (κ + 1 + 1)]) (by simp only [List.length_cons, List.length_nil]; omega)]
    refine T_seq_region rfl ?_
    simp (maxSteps := 2000000) only [go_sem, Nat.reduceAdd, Nat.reduceMul, Nat.reduceBEq, Nat.reduceLeDiff, Nat.reduceLT, Nat.reduceEqDiff]
    rw [wrap64 (by omega)]
    have hsl4 : (spl (i * 6) [.string (mkT (κ)), .int .i64 (κ + 1), .int .i64 (κ + 1 + 1), .int .i64 (κ + 1 + 1 + 1)] X0).length = X0.length := spl_len (by simp only [List.length_cons, List.length_nil]; omega)
    refine T_seq_regionX [0, 0, 0, 0, 0, 1] rfl ?_
    simp (maxSteps := 2000000) only [go_sem, Nat.reduceAdd, Nat.reduceMul, Nat.reduceBEq, Nat.reduceLeDiff, Nat.reduceLT, Nat.reduceEqDiff, ha, hlt, Option.map_some, add_mk, Option.isSome_some, Int.toNat_natCast, Nat.zero_add, Nat.add_zero, List.toList_toArray, Hp.ins_ins]
    refine vstoreS_one (by simp only [go_sem]) (by simp only [go_sem]) rfl rfl Hp.ins_same (.inr (hW _ hfoot)) (by simp only [List.size_toArray, hsl4]; omega) ?_
    simp (maxSteps := 2000000) only [go_sem, Nat.reduceAdd, Nat.reduceMul, Nat.reduceBEq, Nat.reduceLeDiff, Nat.reduceLT, Nat.reduceEqDiff, ha, hlt, Option.map_some, add_mk, Option.isSome_some, Int.toNat_natCast, Nat.zero_add, Nat.add_zero, List.toList_toArray, Hp.ins_ins]
    rw [show spl (i * 6 + 4) [.int .i64 (κ + 1 + 1 + 1 + 1)] (spl (i * 6) [.string (mkT (κ)), .int .i64 (κ + 1), .int .i64 (κ + 1 + 1), .int .i64 (κ + 1 + 1 + 1)] X0) = spl (i * 6) [.string (mkT (κ)), .int .i64 (κ + 1), .int .i64 (κ + 1 + 1), .int .i64 (κ + 1 + 1 + 1), .int .i64 (κ + 1 + 1 + 1 + 1)] X0 from spl_next (m := [.string (mkT (κ)), .int .i64 (κ + 1), .int .i64 (κ + 1 + 1), .int .i64 (κ + 1 + 1 + 1)]) (by simp only [List.length_cons, List.length_nil]; omega)]
    refine T_seq_region rfl ?_
    simp (maxSteps := 2000000) only [go_sem, Nat.reduceAdd, Nat.reduceMul, Nat.reduceBEq, Nat.reduceLeDiff, Nat.reduceLT, Nat.reduceEqDiff]
    rw [wrap64 (by omega)]
    have hsl5 : (spl (i * 6) [.string (mkT (κ)), .int .i64 (κ + 1), .int .i64 (κ + 1 + 1), .int .i64 (κ + 1 + 1 + 1), .int .i64 (κ + 1 + 1 + 1 + 1)] X0).length = X0.length := spl_len (by simp only [List.length_cons, List.length_nil]; omega)
    refine T_seq_regionX [0, 0, 0, 0, 0, 0, 0, 1] rfl ?_
    simp (maxSteps := 2000000) only [go_sem, Nat.reduceAdd, Nat.reduceMul, Nat.reduceBEq, Nat.reduceLeDiff, Nat.reduceLT, Nat.reduceEqDiff, ha, hlt, Option.map_some, add_mk, Option.isSome_some, Int.toNat_natCast, Nat.zero_add, Nat.add_zero, List.toList_toArray, Hp.ins_ins]
    refine ⟨by decide, ?_⟩
    refine vstoreS_one (by simp only [go_sem]) (by simp only [go_sem]) rfl rfl Hp.ins_same (.inr (hW _ hfoot)) (by simp only [List.size_toArray, hsl5]; omega) ?_
    simp (maxSteps := 2000000) only [go_sem, Nat.reduceAdd, Nat.reduceMul, Nat.reduceBEq, Nat.reduceLeDiff, Nat.reduceLT, Nat.reduceEqDiff, ha, hlt, Option.map_some, add_mk, Option.isSome_some, Int.toNat_natCast, Nat.zero_add, Nat.add_zero, List.toList_toArray, Hp.ins_ins]
    rw [show spl (i * 6 + 5) [.bool ((κ + 1 + 1 + 1 + 1 + 1).tmod 3 == 0)] (spl (i * 6) [.string (mkT (κ)), .int .i64 (κ + 1), .int .i64 (κ + 1 + 1), .int .i64 (κ + 1 + 1 + 1), .int .i64 (κ + 1 + 1 + 1 + 1)] X0) = spl (i * 6) [.string (mkT (κ)), .int .i64 (κ + 1), .int .i64 (κ + 1 + 1), .int .i64 (κ + 1 + 1 + 1), .int .i64 (κ + 1 + 1 + 1 + 1), .bool ((κ + 1 + 1 + 1 + 1 + 1).tmod 3 == 0)] X0 from spl_next (m := [.string (mkT (κ)), .int .i64 (κ + 1), .int .i64 (κ + 1 + 1), .int .i64 (κ + 1 + 1 + 1), .int .i64 (κ + 1 + 1 + 1 + 1)]) (by simp only [List.length_cons, List.length_nil]; omega)]
    refine T_region rfl ?_
    simp (maxSteps := 2000000) only [go_sem, Nat.reduceAdd, Nat.reduceMul, Nat.reduceBEq, Nat.reduceLeDiff, Nat.reduceLT, Nat.reduceEqDiff]
    rw [wrap64 (by omega)]
    repeat' first | refine T_seq_region rfl ?_ | refine T_region rfl ?_ | refine T_ret ?_ | refine T_block ?_ | refine T_skip ?_ | refine T_exit ?_ | (simp (maxSteps := 2000000) only [go_sem, Nat.reduceAdd, Nat.reduceMul, Nat.reduceBEq, Nat.reduceLeDiff, Nat.reduceLT, Nat.reduceEqDiff]; try rfl) | refine T_seq ?_ | (refine And.intro ?_ ?_; focus (intros; simp_all only [Bool.or_eq_false_iff, Bool.or_eq_true, Bool.and_eq_true, and_self, true_and, and_true]; done))
    refine ⟨(i + 1, hk'.ins g (.cells (spl (i * 6) [.string (mkT (κ)), .int .i64 (κ + 1), .int .i64 (κ + 1 + 1), .int .i64 (κ + 1 + 1 + 1), .int .i64 (κ + 1 + 1 + 1 + 1), .bool ((κ + 1 + 1 + 1 + 1 + 1).tmod 3 == 0)] X0).toArray e (0, 0))), ⟨hlt, ?_, fun x hx => ?_⟩, by simp only; omega, ?_⟩
    · rw [← mkd_next hlt, ← rowL_set (by rw [mkd_length]; exact hlt), hX]
      simp only
      rw [Hp.ins_same]
      congr 4
      simp only [show k + ((cntL (List.take i s.l) : Nat) : Int) = κ from hκ, Mk.put, Enc.enc, DShip.cells]
      try simp only [mkB, Int.add_assoc, Int.reduceAdd]
      try rfl
    · simp only at hx ⊢
      rw [← mkd_next hlt] at hx
      rcases List.mem_or_eq_of_mem_set hx with hx | rfl
      · exact hok x hx
      · exact (show StrOk _ ∧ I64 _ ∧ I64 _ ∧ I64 _ ∧ I64 _ from ⟨Nat.le_trans (mkT_size _) (by decide), (by unfold I64; simp only [Mk.put]; omega), (by unfold I64; simp only [Mk.put]; omega), (by unfold I64; simp only [Mk.put]; omega), (by unfold I64; simp only [Mk.put]; omega)⟩)
    · simp (maxSteps := 2000000) only [go_sem, Nat.reduceAdd, Nat.reduceMul, Nat.reduceBEq, Nat.reduceLeDiff, Nat.reduceLT, Nat.reduceEqDiff]
      exact ⟨svInt (by rw [hcnt, hc]; omega), svInt (wrapS hlt (by omega))⟩
  · have hge := ge_of_dec hd
    have hie : i = s.l.length := Nat.le_antisymm hi hge
    repeat' first | refine T_seq_region rfl ?_ | refine T_region rfl ?_ | refine T_ret ?_ | refine T_block ?_ | refine T_skip ?_ | refine T_exit ?_ | (simp (maxSteps := 2000000) only [go_sem, Nat.reduceAdd, Nat.reduceMul, Nat.reduceBEq, Nat.reduceLeDiff, Nat.reduceLT, Nat.reduceEqDiff]; try rfl) | refine T_seq ?_ | (refine And.intro ?_ ?_; focus (intros; simp_all only [Bool.or_eq_false_iff, Bool.or_eq_true, Bool.and_eq_true, and_self, true_and, and_true]; done))
    have hp : mkd s.l k i = (Mk.put s k).l := mkd_all hge
    rw [hp] at hb0 hok
    have hll : (Mk.put s k).l.length = s.l.length := mkL_length
    have hsl := row_sl (α := DShip) (h := hk') (g := g) (cap := s.cap) (by decide) hb0 (by rw [hll]; exact hs.1) hs.2.2.2.2 hok
    have hsv : (Sl.mk (some ⟨g, 0, none⟩) s.cap (Mk.put s k).l : Sl DShip) = Mk.put s k := by rw [← ha]; rfl
    rw [hsv] at hsl
    refine ⟨by rw [hie, List.take_length, hcs], hsl, fun _ => ⟨⟨g, _, e, ha, hb0, ?_⟩, fun x hx => trivial⟩⟩
    rw [List.size_toArray, rowL_len, hll, hsp]
    rfl

theorem markChart_fn (c : DChart) (k : Int) (h : Hp) (hc : Enc.ok h c) (ho : Foot.own h c) (hn : (Foot.foot c).Nodup) (hk : 0 ≤ k ∧ k + (cntv_DChart c : Nat) ≤ 4611686018427387904) : Cw Try.prog 45 [c.v, .int .i64 k] h (fun b => b ∈ Foot.foot c) fun v h' => v = .int .i64 (k + (cntv_DChart c : Nat)) ∧ Enc.ok h' (mkv_DChart c k) ∧ Foot.own h' (mkv_DChart c k) := by
  have hdom := fun b hb => Foot.dom (x := c) ho b hb
  have hcv : cntv_DChart c = Mk.cnt c.points + Mk.cnt c.segments := rfl
  have hft : Foot.foot c = Foot.foot c.points ++ Foot.foot c.segments := rfl
  rw [hft] at hn
  rw [own_DChart] at ho
  have hmem : ∀ b, b ∈ Foot.foot c ↔ b ∈ Foot.foot c.points ∨ b ∈ Foot.foot c.segments := fun b => by rw [hft]; simp only [List.mem_append, or_assoc]
  simp only [List.nodup_append, List.mem_append] at hn
  have ok0_0 : Enc.ok h c.points := hc.1
  have ow0_0 : Foot.own h c.points := ho.1
  have nd0 : (Foot.foot c.points).Nodup := hn.1
  have ok1_0 : Enc.ok h c.segments := hc.2
  have ow1_0 : Foot.own h c.segments := ho.2
  have nd1 : (Foot.foot c.segments).Nodup := hn.2.1
  have ds1_0 : ∀ b ∈ Foot.foot c.segments, ¬ (b ∈ Foot.foot c.points) := fun b hi hq => hn.2.2 b hq b hi rfl
  refine Cw_of_T (fun A W => by simp) Try.func45 rfl rfl (by simp)  hdom fun W0 hW => ?_
  refine T_seq_region rfl ?_
  simp (maxSteps := 2000000) only [go_sem, Nat.reduceAdd, Nat.reduceMul, Nat.reduceBEq, Nat.reduceLeDiff, Nat.reduceLT, Nat.reduceEqDiff]
  refine T_seq_regionX [0, 0, 0, 1] rfl ?_
  simp (maxSteps := 2000000) only [go_sem, Nat.reduceAdd, Nat.reduceMul, Nat.reduceBEq, Nat.reduceLeDiff, Nat.reduceLT, Nat.reduceEqDiff]
  refine vfnW_at (x := ⟨Try.prog, W0, h, _⟩) (markPointS_fn c.points (k) _ ok0_0 ow0_0 nd0 (by omega)) rfl (fun b hb => ⟨Foot.dom (x := c.points) ow0_0 b hb, .inr (hW b ((hmem b).2 (Or.inl hb)))⟩) ?_
  rintro v h0 kp0 ⟨rfl, pk0, pw0⟩
  obtain ⟨ok1_1, ow1_1⟩ := ok_keep (x := c.segments) ok1_0 ow1_0 ds1_0 kp0
  simp (maxSteps := 2000000) only [go_sem, Nat.reduceAdd, Nat.reduceMul, Nat.reduceBEq, Nat.reduceLeDiff, Nat.reduceLT, Nat.reduceEqDiff]
  refine T_seq_regionX [0, 0, 0, 1] rfl ?_
  simp (maxSteps := 2000000) only [go_sem, Nat.reduceAdd, Nat.reduceMul, Nat.reduceBEq, Nat.reduceLeDiff, Nat.reduceLT, Nat.reduceEqDiff]
  refine vfnW_at (x := ⟨Try.prog, W0, h, _⟩) (markSegmentS_fn c.segments (k + (Mk.cnt c.points : Nat)) _ ok1_1 ow1_1 nd1 (by omega)) rfl (fun b hb => ⟨Foot.dom (x := c.segments) ow1_1 b hb, .inr (hW b ((hmem b).2 (Or.inr hb)))⟩) ?_
  rintro v h1 kp1 ⟨rfl, pk1, pw1⟩
  have kk0_2 := ok_keep pk0 pw0 (fun b hb hi => ds1_0 b hi (by rw [MkOk.foot] at hb; exact hb)) kp1
  obtain ⟨pk0_2, pw0_2⟩ := kk0_2
  simp (maxSteps := 2000000) only [go_sem, Nat.reduceAdd, Nat.reduceMul, Nat.reduceBEq, Nat.reduceLeDiff, Nat.reduceLT, Nat.reduceEqDiff]
  repeat' first | refine T_seq_region rfl ?_ | refine T_region rfl ?_ | refine T_ret ?_ | refine T_block ?_ | refine T_skip ?_ | refine T_exit ?_ | (simp (maxSteps := 2000000) only [go_sem, Nat.reduceAdd, Nat.reduceMul, Nat.reduceBEq, Nat.reduceLeDiff, Nat.reduceLT, Nat.reduceEqDiff]; try rfl) | refine T_seq ?_ | (refine And.intro ?_ ?_; focus (intros; simp_all only [Bool.or_eq_false_iff, Bool.or_eq_true, Bool.and_eq_true, and_self, true_and, and_true]; done))
  exact ⟨by rw [hcv]; congr 1; omega, ⟨pk0_2, pk1⟩, ⟨pw0_2, pw1⟩⟩

theorem markOptionS_fn (s : Sl DOption) (k : Int) (h : Hp) (hs : s.Ok h) (ho : Foot.own h s) (hn : (Foot.foot s).Nodup) (hk : 0 ≤ k ∧ k + (Mk.cnt s : Nat) ≤ 4611686018427387904) : Cw Try.prog 18 [s.val, .int .i64 k] h (fun b => b ∈ Foot.foot s) fun v h' => v = .int .i64 (k + (Mk.cnt s : Nat)) ∧ Enc.ok h' (Mk.put s k) ∧ Foot.own h' (Mk.put s k) := by
  have hmax := hs.max
  have hcs : Mk.cnt s = cntL s.l := rfl
  by_cases hl : s.l = []
  · refine Cw_of_T (fun A W => by simp) Try.func18 rfl rfl (by simp)  (fun b hb => Foot.dom ho b hb) fun W0 hW => ?_
    repeat' first | refine T_seq_region rfl ?_ | refine T_region rfl ?_ | refine T_ret ?_ | refine T_block ?_ | refine T_skip ?_ | refine T_exit ?_ | (simp (maxSteps := 2000000) only [go_sem, Nat.reduceAdd, Nat.reduceMul, Nat.reduceBEq, Nat.reduceLeDiff, Nat.reduceLT, Nat.reduceEqDiff]; try rfl) | refine T_seq ?_ | (refine And.intro ?_ ?_; focus (intros; simp_all only [Bool.or_eq_false_iff, Bool.or_eq_true, Bool.and_eq_true, and_self, true_and, and_true]; done))
    refine T_loop (ι := Unit) (fun _ => ⟨[(0, true, .c (.v s.val)), (1, true, .c (.v (.int .i64 k))), (5, true, .c (.v (.int .i64 0)))], [], h, 0⟩) (fun _ => True) (fun _ => 0) () trivial ?_ ?_
    · simp (maxSteps := 2000000) only [go_sem, Nat.reduceAdd, Nat.reduceMul, Nat.reduceBEq, Nat.reduceLeDiff, Nat.reduceLT, Nat.reduceEqDiff]
    rintro _ _
    repeat' first | refine T_seq_region rfl ?_ | refine T_region rfl ?_ | refine T_ret ?_ | refine T_block ?_ | refine T_skip ?_ | refine T_exit ?_ | (simp (maxSteps := 2000000) only [go_sem, Nat.reduceAdd, Nat.reduceMul, Nat.reduceBEq, Nat.reduceLeDiff, Nat.reduceLT, Nat.reduceEqDiff]; try rfl) | refine T_seq ?_ | (refine And.intro ?_ ?_; focus (intros; simp_all only [Bool.or_eq_false_iff, Bool.or_eq_true, Bool.and_eq_true, and_self, true_and, and_true]; done))
    refine T_cond rfl (fun hc => ?_) (fun hc => ?_)
    · exact absurd (of_decide_eq_true hc) (by rw [hl]; simp)
    · repeat' first | refine T_seq_region rfl ?_ | refine T_region rfl ?_ | refine T_ret ?_ | refine T_block ?_ | refine T_skip ?_ | refine T_exit ?_ | (simp (maxSteps := 2000000) only [go_sem, Nat.reduceAdd, Nat.reduceMul, Nat.reduceBEq, Nat.reduceLeDiff, Nat.reduceLT, Nat.reduceEqDiff]; try rfl) | refine T_seq ?_ | (refine And.intro ?_ ?_; focus (intros; simp_all only [Bool.or_eq_false_iff, Bool.or_eq_true, Bool.and_eq_true, and_self, true_and, and_true]; done))
      refine ⟨by rw [hcs, hl]; simp [cntL], ⟨(by simp [Mk.put, hl, mkL]), fun hne => (hne (by simp [Mk.put, hl, mkL])).elim, fun i x hx => by simp [Mk.put, hl, mkL] at hx, fun x hx => by simp [Mk.put, hl, mkL] at hx, hs.2.2.2.2⟩, fun hne => (hne (by simp [Mk.put, hl, mkL])).elim⟩
  obtain ⟨g, e, spare, ha, hb, hsp⟩ := own_row (by decide) hs ho hl
  have hsz : Enc.size DOption = 4 := rfl
  have hft : Foot.foot s = s.blkOf :: s.l.flatMap Foot.foot := Sl.foot_ne hl
  have hbo : s.blkOf = g := by simp [Sl.blkOf, ha]
  have hfoot : g ∈ Foot.foot s := by rw [hft, hbo]; exact List.mem_cons_self ..
  have hnd := hn
  rw [hft, hbo] at hnd
  have hgn := (List.nodup_cons.1 hnd).1
  have hnd := (List.nodup_cons.1 hnd).2
  have hin : ∀ i (hi : i < s.l.length) b, b ∈ Foot.foot s.l[i] → b ∈ Foot.foot s := fun i hi b hm => by
    rw [hft]; exact List.mem_cons_of_mem _ (List.mem_flatMap.2 ⟨_, List.getElem_mem hi, hm⟩)
  have hgi : ∀ i (hi : i < s.l.length) b, b ∈ Foot.foot s.l[i] → b ≠ g := fun i hi b hm e' => hgn (by rw [← e']; exact List.mem_flatMap.2 ⟨_, List.getElem_mem hi, hm⟩)
  refine Cw_of_T (fun A W => by simp) Try.func18 rfl rfl (by simp)  (fun b hb => Foot.dom ho b hb) fun W0 hW => ?_
  repeat' first | refine T_seq_region rfl ?_ | refine T_region rfl ?_ | refine T_ret ?_ | refine T_block ?_ | refine T_skip ?_ | refine T_exit ?_ | (simp (maxSteps := 2000000) only [go_sem, Nat.reduceAdd, Nat.reduceMul, Nat.reduceBEq, Nat.reduceLeDiff, Nat.reduceLT, Nat.reduceEqDiff]; try rfl) | refine T_seq ?_ | (refine And.intro ?_ ?_; focus (intros; simp_all only [Bool.or_eq_false_iff, Bool.or_eq_true, Bool.and_eq_true, and_self, true_and, and_true]; done))
  refine T_loop (ι := Nat × Hp) (fun i => ⟨[(0, true, .c (.v s.val)), (1, true, .c (.v (.int .i64 (k + (cntL (s.l.take i.1) : Nat))))), (5, true, .c (.v (.int .i64 i.1)))], [], i.2, 0⟩) (fun i => i.1 ≤ s.l.length ∧ i.2 g = some (.cells (rowL (mkd s.l k i.1) spare).toArray e (0, 0)) ∧ ∀ j (hj : j < s.l.length), (j < i.1 → Enc.ok i.2 (Mk.put s.l[j] (k + (cntL (s.l.take j) : Nat))) ∧ Foot.own i.2 (Mk.put s.l[j] (k + (cntL (s.l.take j) : Nat)))) ∧ (i.1 ≤ j → Enc.ok i.2 s.l[j] ∧ Foot.own i.2 s.l[j])) (fun i => s.l.length - i.1) (0, h) ⟨Nat.zero_le _, by rw [mkd_zero]; exact hb, fun j hj => ⟨fun hj0 => absurd hj0 (Nat.not_lt_zero _), fun _ => ⟨hs.2.2.2.1 _ (List.getElem_mem hj), (ho hl).2 _ (List.getElem_mem hj)⟩⟩⟩ ?_ ?_
  · simp (maxSteps := 2000000) only [go_sem, Nat.reduceAdd, Nat.reduceMul, Nat.reduceBEq, Nat.reduceLeDiff, Nat.reduceLT, Nat.reduceEqDiff]
    exact ⟨svInt (by rw [cntL_nil]; omega), rfl⟩
  rintro ⟨i, hk'⟩ ⟨hi, hb0, hok⟩
  repeat' first | refine T_seq_region rfl ?_ | refine T_region rfl ?_ | refine T_ret ?_ | refine T_block ?_ | refine T_skip ?_ | refine T_exit ?_ | (simp (maxSteps := 2000000) only [go_sem, Nat.reduceAdd, Nat.reduceMul, Nat.reduceBEq, Nat.reduceLeDiff, Nat.reduceLT, Nat.reduceEqDiff]; try rfl) | refine T_seq ?_ | (refine And.intro ?_ ?_; focus (intros; simp_all only [Bool.or_eq_false_iff, Bool.or_eq_true, Bool.and_eq_true, and_self, true_and, and_true]; done))
  refine T_cond rfl (fun hd => ?_) (fun hd => ?_)
  · have hlt := lt_of_dec hd
    have hcnt := cntL_take hlt
    have hcle := cntL_take_le (l := s.l) (i := i + 1)
    have hc : Mk.cnt s.l[i] = 3 + Mk.cnt s.l[i].pas := rfl
    have hcell : (rowL (mkd s.l k i) spare)[i * 4 + 3]? = some s.l[i].pas.val := row_get (α := DOption) (f := 3) (by rw [mkd_length]; exact hlt) (by rw [mkd_get hlt]; rfl)
    have hnext : rowL (mkd s.l k (i + 1)) spare = spl (i * 4) (Enc.enc (Mk.put s.l[i] (k + (cntL (s.l.take i) : Nat)))) (rowL (mkd s.l k i) spare) := by
      rw [← mkd_next hlt]; exact (spl_row (α := DOption) (by rw [mkd_length]; exact hlt)).symm
    have hlen : i * 4 + 4 ≤ (rowL (mkd s.l k i) spare).length := by rw [rowL_len, mkd_length, hsz]; omega
    obtain ⟨oki, owni⟩ := (hok i hlt).2 (Nat.le_refl _)
    generalize hκ : k + ((cntL (s.l.take i) : Nat) : Int) = κ at hnext
    have hκ0 : 0 ≤ κ ∧ κ + (Mk.cnt s.l[i] : Nat) ≤ 4611686018427387904 := by omega
    generalize hX : rowL (mkd s.l k i) spare = X0 at hb0 hlen hcell hnext
    refine T_skip ?_
    simp (maxSteps := 2000000) only [go_sem, Nat.reduceAdd, Nat.reduceMul, Nat.reduceBEq, Nat.reduceLeDiff, Nat.reduceLT, Nat.reduceEqDiff]
    refine T_seq ?_
    refine T_block ?_
    refine T_seq_regionX [0, 0, 0, 0, 0, 1] rfl ?_
    simp (maxSteps := 2000000) only [go_sem, Nat.reduceAdd, Nat.reduceMul, Nat.reduceBEq, Nat.reduceLeDiff, Nat.reduceLT, Nat.reduceEqDiff, ha, hlt, Option.map_some, add_mk, Option.isSome_some, Int.toNat_natCast, Nat.zero_add, Nat.add_zero, List.toList_toArray, Hp.ins_ins]
    refine vstoreS_one (by simp only [go_sem]) (by simp only [go_sem]) rfl rfl hb0 (.inr (hW _ hfoot)) (by simp only [List.size_toArray]; omega) ?_
    simp (maxSteps := 2000000) only [go_sem, Nat.reduceAdd, Nat.reduceMul, Nat.reduceBEq, Nat.reduceLeDiff, Nat.reduceLT, Nat.reduceEqDiff, ha, hlt, Option.map_some, add_mk, Option.isSome_some, Int.toNat_natCast, Nat.zero_add, Nat.add_zero, List.toList_toArray, Hp.ins_ins]
    refine T_seq_region rfl ?_
    simp (maxSteps := 2000000) only [go_sem, Nat.reduceAdd, Nat.reduceMul, Nat.reduceBEq, Nat.reduceLeDiff, Nat.reduceLT, Nat.reduceEqDiff]
    rw [wrap64 (by omega)]
    have hsl1 : (spl (i * 4) [.int .i64 (κ)] X0).length = X0.length := spl_len (by simp only [List.length_cons, List.length_nil]; omega)
    refine T_seq_regionX [0, 0, 0, 0, 0, 1] rfl ?_
    simp (maxSteps := 2000000) only [go_sem, Nat.reduceAdd, Nat.reduceMul, Nat.reduceBEq, Nat.reduceLeDiff, Nat.reduceLT, Nat.reduceEqDiff, ha, hlt, Option.map_some, add_mk, Option.isSome_some, Int.toNat_natCast, Nat.zero_add, Nat.add_zero, List.toList_toArray, Hp.ins_ins]
    refine vstoreS_one (by simp only [go_sem]) (by simp only [go_sem]) rfl rfl Hp.ins_same (.inr (hW _ hfoot)) (by simp only [List.size_toArray, hsl1]; omega) ?_
    simp (maxSteps := 2000000) only [go_sem, Nat.reduceAdd, Nat.reduceMul, Nat.reduceBEq, Nat.reduceLeDiff, Nat.reduceLT, Nat.reduceEqDiff, ha, hlt, Option.map_some, add_mk, Option.isSome_some, Int.toNat_natCast, Nat.zero_add, Nat.add_zero, List.toList_toArray, Hp.ins_ins]
    rw [show spl (i * 4 + 1) [.int .i64 (κ + 1)] (spl (i * 4) [.int .i64 (κ)] X0) = spl (i * 4) [.int .i64 (κ), .int .i64 (κ + 1)] X0 from spl_next (m := [.int .i64 (κ)]) (by simp only [List.length_cons, List.length_nil]; omega)]
    refine T_seq_region rfl ?_
    simp (maxSteps := 2000000) only [go_sem, Nat.reduceAdd, Nat.reduceMul, Nat.reduceBEq, Nat.reduceLeDiff, Nat.reduceLT, Nat.reduceEqDiff]
    rw [wrap64 (by omega)]
    have hsl2 : (spl (i * 4) [.int .i64 (κ), .int .i64 (κ + 1)] X0).length = X0.length := spl_len (by simp only [List.length_cons, List.length_nil]; omega)
    refine T_seq_regionX [0, 0, 0, 0, 0, 1] rfl ?_
    simp (maxSteps := 2000000) only [go_sem, Nat.reduceAdd, Nat.reduceMul, Nat.reduceBEq, Nat.reduceLeDiff, Nat.reduceLT, Nat.reduceEqDiff, ha, hlt, Option.map_some, add_mk, Option.isSome_some, Int.toNat_natCast, Nat.zero_add, Nat.add_zero, List.toList_toArray, Hp.ins_ins]
    refine vstoreS_one (by simp only [go_sem]) (by simp only [go_sem]) rfl rfl Hp.ins_same (.inr (hW _ hfoot)) (by simp only [List.size_toArray, hsl2]; omega) ?_
    simp (maxSteps := 2000000) only [go_sem, Nat.reduceAdd, Nat.reduceMul, Nat.reduceBEq, Nat.reduceLeDiff, Nat.reduceLT, Nat.reduceEqDiff, ha, hlt, Option.map_some, add_mk, Option.isSome_some, Int.toNat_natCast, Nat.zero_add, Nat.add_zero, List.toList_toArray, Hp.ins_ins]
    rw [show spl (i * 4 + 2) [.int .i64 (κ + 1 + 1)] (spl (i * 4) [.int .i64 (κ), .int .i64 (κ + 1)] X0) = spl (i * 4) [.int .i64 (κ), .int .i64 (κ + 1), .int .i64 (κ + 1 + 1)] X0 from spl_next (m := [.int .i64 (κ), .int .i64 (κ + 1)]) (by simp only [List.length_cons, List.length_nil]; omega)]
    refine T_seq_region rfl ?_
    simp (maxSteps := 2000000) only [go_sem, Nat.reduceAdd, Nat.reduceMul, Nat.reduceBEq, Nat.reduceLeDiff, Nat.reduceLT, Nat.reduceEqDiff]
    rw [wrap64 (by omega)]
    have hbc : (hk'.ins g (.cells (spl (i * 4) [.int .i64 (κ), .int .i64 (κ + 1), .int .i64 (κ + 1 + 1)] X0).toArray e (0, 0))) g = some (.cells (spl (i * 4) [.int .i64 (κ), .int .i64 (κ + 1), .int .i64 (κ + 1 + 1)] X0).toArray e (0, 0)) := Hp.ins_same
    have hcell2 : (spl (i * 4) [.int .i64 (κ), .int .i64 (κ + 1), .int .i64 (κ + 1 + 1)] X0)[i * 4 + 3]? = some s.l[i].pas.val := by
      rw [spl_after (by simp only [List.length_cons, List.length_nil]; omega) (by simp only [List.length_cons, List.length_nil]; omega)]; exact hcell
    have hld := lds1_row hbc hcell2
    try simp only [Nat.mul_one, Nat.add_zero] at hld
    have hne : ∀ b, b ≠ g → (hk'.ins g (.cells (spl (i * 4) [.int .i64 (κ), .int .i64 (κ + 1), .int .i64 (κ + 1 + 1)] X0).toArray e (0, 0))) b = hk' b := fun b hb => Hp.ins_ne hb
    have hmove : ∀ j (hj : j < s.l.length) (x : DOption), Foot.foot x = Foot.foot s.l[j] → Enc.ok hk' x → Foot.own hk' x → Enc.ok (hk'.ins g (.cells (spl (i * 4) [.int .i64 (κ), .int .i64 (κ + 1), .int .i64 (κ + 1 + 1)] X0).toArray e (0, 0))) x ∧ Foot.own (hk'.ins g (.cells (spl (i * 4) [.int .i64 (κ), .int .i64 (κ + 1), .int .i64 (κ + 1 + 1)] X0).toArray e (0, 0))) x := fun j hj x hx h1 h2 => Foot.loc h1 h2 fun b hb o' ho' => by rw [hne b (hgi j hj b (by rw [← hx]; exact hb))]; exact ho'
    obtain ⟨oki', owni'⟩ := hmove i hlt _ rfl oki owni
    refine T_regionX [0, 0, 0, 0, 0, 0, 1] rfl ?_
    simp (maxSteps := 2000000) only [go_sem, Nat.reduceAdd, Nat.reduceMul, Nat.reduceBEq, Nat.reduceLeDiff, Nat.reduceLT, Nat.reduceEqDiff, ha, hlt, Option.map_some, add_mk, Option.isSome_some, Int.toNat_natCast, Nat.zero_add, Nat.add_zero, List.toList_toArray, Hp.ins_ins, hld]
    refine vfnW_at (x := ⟨Try.prog, W0, h, _⟩) (markPassageS_fn s.l[i].pas (κ + 1 + 1 + 1) _ oki'.2.2.2 owni' (flat_nodup hnd (List.getElem_mem hlt)) (by omega)) rfl (fun b hb => ⟨Foot.dom owni' b hb, .inr (hW b (hin i hlt b hb))⟩) ?_
    rintro v h2 hkeep ⟨rfl, ok2, own2⟩
    simp (maxSteps := 2000000) only [go_sem, Nat.reduceAdd, Nat.reduceMul, Nat.reduceBEq, Nat.reduceLeDiff, Nat.reduceLT, Nat.reduceEqDiff]
    repeat' first | refine T_seq_region rfl ?_ | refine T_region rfl ?_ | refine T_ret ?_ | refine T_block ?_ | refine T_skip ?_ | refine T_exit ?_ | (simp (maxSteps := 2000000) only [go_sem, Nat.reduceAdd, Nat.reduceMul, Nat.reduceBEq, Nat.reduceLeDiff, Nat.reduceLT, Nat.reduceEqDiff]; try rfl) | refine T_seq ?_ | (refine And.intro ?_ ?_; focus (intros; simp_all only [Bool.or_eq_false_iff, Bool.or_eq_true, Bool.and_eq_true, and_self, true_and, and_true]; done))
    have hg2 : h2 g = some (.cells (rowL (mkd s.l k (i + 1)) spare).toArray e (0, 0)) := by
      rw [hnext]
      refine hkeep g _ ?_ (fun hb => hgi i hlt g hb rfl)
      rw [hbc]
      congr 3
      rw [show Enc.enc (Mk.put s.l[i] κ) = [.int .i64 (κ), .int .i64 (κ + 1), .int .i64 (κ + 1 + 1)] ++ [s.l[i].pas.val] from ?_]
      · rw [spl_same hcell]
      · simp only [Mk.put, Enc.enc, DOption.cells, Int.add_assoc, Int.reduceAdd, mkB, Sl.val, mkL_length]
        rfl
    refine ⟨(i + 1, h2), ⟨hlt, hg2, fun j hj => ⟨fun hji => ?_, fun hij => ?_⟩⟩, by simp only; omega, ?_⟩
    · rcases Nat.lt_succ_iff_lt_or_eq.1 hji with hji | rfl
      · obtain ⟨h1, h3⟩ := (hok j hj).1 hji
        obtain ⟨h1, h3⟩ := hmove j hj _ (MkOk.foot _ _) h1 h3
        exact Foot.loc h1 h3 fun b hb o' ho' => hkeep b o' ho' fun hb2 => flat_apart hnd hj hlt (by omega) b (by rw [← MkOk.foot s.l[j] (k + (cntL (s.l.take j) : Nat))]; exact hb) hb2
      · simp only [hκ]
        exact ⟨(show Enc.ok h2 (Mk.put s.l[j] κ) from ⟨(by unfold I64; simp only [Mk.put]; omega), (by unfold I64; simp only [Mk.put]; omega), (by unfold I64; simp only [Mk.put]; omega), (by have h9 := ok2; (try simp only [Int.add_assoc, Int.reduceAdd] at h9); exact h9)⟩), (show Foot.own h2 (Mk.put s.l[j] κ) from by have h9 := own2; (try simp only [Int.add_assoc, Int.reduceAdd] at h9); exact h9)⟩
    · obtain ⟨h1, h3⟩ := (hok j hj).2 (by simp only at hij; omega)
      obtain ⟨h1, h3⟩ := hmove j hj _ rfl h1 h3
      exact Foot.loc h1 h3 fun b hb o' ho' => hkeep b o' ho' fun hb2 => flat_apart hnd hj hlt (by simp only at hij; omega) b hb hb2
    · simp (maxSteps := 2000000) only [go_sem, Nat.reduceAdd, Nat.reduceMul, Nat.reduceBEq, Nat.reduceLeDiff, Nat.reduceLT, Nat.reduceEqDiff]
      exact ⟨svInt (by rw [hcnt, hc]; omega), svInt (wrapS hlt (by omega))⟩
  · have hge := ge_of_dec hd
    have hie : i = s.l.length := Nat.le_antisymm hi hge
    repeat' first | refine T_seq_region rfl ?_ | refine T_region rfl ?_ | refine T_ret ?_ | refine T_block ?_ | refine T_skip ?_ | refine T_exit ?_ | (simp (maxSteps := 2000000) only [go_sem, Nat.reduceAdd, Nat.reduceMul, Nat.reduceBEq, Nat.reduceLeDiff, Nat.reduceLT, Nat.reduceEqDiff]; try rfl) | refine T_seq ?_ | (refine And.intro ?_ ?_; focus (intros; simp_all only [Bool.or_eq_false_iff, Bool.or_eq_true, Bool.and_eq_true, and_self, true_and, and_true]; done))
    have hp : mkd s.l k i = (Mk.put s k).l := mkd_all hge
    rw [hp] at hb0
    have hll : (Mk.put s k).l.length = s.l.length := mkL_length
    have hel : ∀ x ∈ (Mk.put s k).l, Enc.ok hk' x ∧ Foot.own hk' x := fun x hx => by
      obtain ⟨j, hj, rfl⟩ := mem_mkL hx
      exact (hok j hj).1 (by rw [hie]; exact hj)
    have hsl := row_sl (α := DOption) (h := hk') (g := g) (cap := s.cap) (by decide) hb0 (by rw [hll]; exact hs.1) hs.2.2.2.2 (fun x hx => (hel x hx).1)
    have hsv : (Sl.mk (some ⟨g, 0, none⟩) s.cap (Mk.put s k).l : Sl DOption) = Mk.put s k := by rw [← ha]; rfl
    rw [hsv] at hsl
    refine ⟨by rw [hie, List.take_length, hcs], hsl, fun _ => ⟨⟨g, _, e, ha, hb0, ?_⟩, fun x hx => (hel x hx).2⟩⟩
    rw [List.size_toArray, rowL_len, hll, hsp]
    rfl
end Go.Proofs.Ytfbdafdbinbeaaa
