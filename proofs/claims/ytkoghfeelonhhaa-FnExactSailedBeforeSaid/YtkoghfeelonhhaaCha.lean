/- What functions of the given program compute, each as a contract over what its arguments read as. No condition beside those that each theorem states. -/
import Derived.Test.YtkoghfeelonhhaaSel
set_option linter.unusedVariables false
set_option linter.unusedSimpArgs false
namespace Go.Proofs.Ytkoghfeelonhhaa
open Go Go.SL
set_option maxHeartbeats 1000000
theorem impl_clonePassage_fn (a : Sl DPassage) (h : Hp) (ha : a.Ok h) (hz : a.l.length ≤ 1048576) : Ct Try.prog 77 [a.val] h fun v h' => ∃ s : Sl DPassage, v = s.val ∧ s.l = a.l ∧ s.Ok h' ∧ Mine h h' s := by
  have hall := ha.all (by decide)
  have hd : (h.ldL a.val 5).isSome = true := by rw [show h.ldL a.val 5 = _ from hall]; rfl
  refine Ct_of_T (fun A W => by simp) Try.func77 rfl rfl (by simp) fun W0 => ?_
  repeat' first | refine T_seq_region rfl ?_ | refine T_region rfl ?_ | refine T_ret ?_ | refine T_block ?_ | refine T_skip ?_ | refine T_exit ?_ | (simp (maxSteps := 2000000) only [go_sem, Nat.reduceAdd, Nat.reduceMul, Nat.reduceBEq, Nat.reduceLeDiff, Nat.reduceLT, Nat.reduceEqDiff, hall, show h.ldL a.val 5 = some (a.l.flatMap Enc.enc) from hall, Option.isSome_some, Option.getD_some]; try rfl) | refine T_seq ?_
  refine ⟨by simp only [maxLen]; omega, by omega, ?_⟩
  repeat' first | refine T_seq_region rfl ?_ | refine T_region rfl ?_ | refine T_ret ?_ | refine T_block ?_ | refine T_skip ?_ | refine T_exit ?_ | (simp (maxSteps := 2000000) only [go_sem, Nat.reduceAdd, Nat.reduceMul, Nat.reduceBEq, Nat.reduceLeDiff, Nat.reduceLT, Nat.reduceEqDiff, hall, show h.ldL a.val 5 = some (a.l.flatMap Enc.enc) from hall, Option.isSome_some, Option.getD_some]; try rfl) | refine T_seq ?_
  refine ⟨fun u hu => by obtain ⟨x, _, hx⟩ := List.mem_flatMap.1 hu; exact Enc.one x u hx, by simp only [maxLen]; omega, by omega, ?_⟩
  refine T_pubM 1 a.l rfl rfl (Nat.zero_add _) rfl (by decide) (fun x hx => ha.2.2.2.1 x hx) h (Hp.le_refl _) (Mines.flat (fun _ => rfl) (fun _ => trivial)) fun s h' e1 e2 e3 e4 => ?_
  repeat' first | refine T_seq_region rfl ?_ | refine T_region rfl ?_ | refine T_ret ?_ | refine T_block ?_ | refine T_skip ?_ | refine T_exit ?_ | (simp (maxSteps := 2000000) only [go_sem, Nat.reduceAdd, Nat.reduceMul, Nat.reduceBEq, Nat.reduceLeDiff, Nat.reduceLT, Nat.reduceEqDiff]; try rfl) | refine T_seq ?_
  exact ⟨s, rfl, e1, e2, e4⟩
def F_SailedBefore (o : POption) (m : Int) : List DPassage := o.pas.filter (fun p => decide (p.start < m))
theorem impl_SailedBefore_fn (a : DOption) (m : Int) (h : Hp) (ha : Enc.ok h a) (hm : I64 m) (hz : Sz.sz (Con.con a) ≤ 1048576) : Ct Try.prog 41 [a.v, .int .i64 m] h fun v h' => ∃ s : Sl DPassage, v = s.val ∧ Con.con s = F_SailedBefore (Con.con a) m ∧ s.Ok h' ∧ Mine h h' s := by
  have hp := ha.2.2.2
  have hl := hp.max
  have hz : a.pas.l.length ≤ 1048576 := by
    have h2 : Sz.sz (Con.con a) = Sz.sz (Con.con a.pas) := rfl
    rw [h2] at hz
    have := sz_len hz
    rwa [con_len'] at this
  rw [F_SailedBefore, show (Con.con a).pas = a.pas.l from con_pas _]
  refine Ct_of_T (fun A W => by simp) Try.func41 rfl rfl (by simp) fun W0 => ?_
  repeat' first | refine T_seq_region rfl ?_ | refine T_region rfl ?_ | refine T_ret ?_ | refine T_block ?_ | refine T_skip ?_ | refine T_exit ?_ | (simp (maxSteps := 2000000) only [go_sem, Nat.reduceAdd, Nat.reduceMul, Nat.reduceBEq, Nat.reduceLeDiff, Nat.reduceLT, Nat.reduceEqDiff]; try rfl) | refine T_seq ?_
  refine T_loopG (ι := Nat) (fun k => ⟨[(1, true, .c (.v (.int .i64 m))), (5, true, .c (.s 0)), (10, true, .c (.v a.pas.val)), (11, true, .c (.v (.int .i64 a.pas.l.length))), (12, true, .c (.v (.int .i64 k)))], [(0, .row 85 5 ((a.pas.l.take k).filter (fun p => decide (p.start < m))).length (((a.pas.l.take k).filter (fun p => decide (p.start < m))).flatMap Enc.enc))], h, 1⟩) (fun k => k ≤ a.pas.l.length) (fun k => a.pas.l.length - k) 0 (Nat.zero_le _) [1] ?_ ?_
  · simp (maxSteps := 2000000) only [go_sem, Nat.reduceAdd, Nat.reduceMul, Nat.reduceBEq, Nat.reduceLeDiff, Nat.reduceLT, Nat.reduceEqDiff]
    first | exact rfl | exact ⟨rfl, rfl⟩ | exact ⟨rfl, rfl, rfl⟩ | exact ⟨rfl, rfl, rfl, rfl⟩ | exact ⟨rfl, rfl, rfl, rfl, rfl⟩
  intro k hk
  repeat' first | refine T_seq_region rfl ?_ | refine T_region rfl ?_ | refine T_ret ?_ | refine T_block ?_ | refine T_skip ?_ | refine T_exit ?_ | (simp (maxSteps := 2000000) only [go_sem, Nat.reduceAdd, Nat.reduceMul, Nat.reduceBEq, Nat.reduceLeDiff, Nat.reduceLT, Nat.reduceEqDiff]; try rfl) | refine T_seq ?_
  refine T_cond rfl (fun hd => ?_) (fun hd => ?_)
  · have hlt := lt_of_dec hd
    have hlf : ((a.pas.l.take k).filter (fun p => decide (p.start < m))).length ≤ k := Nat.le_trans (List.length_filter_le _ _) (by rw [List.length_take]; omega)
    repeat' first | refine T_seq_region rfl ?_ | refine T_region rfl ?_ | refine T_ret ?_ | refine T_block ?_ | refine T_skip ?_ | refine T_exit ?_ | (simp (maxSteps := 2000000) only [go_sem, Nat.reduceAdd, Nat.reduceMul, Nat.reduceBEq, Nat.reduceLeDiff, Nat.reduceLT, Nat.reduceEqDiff, at_DPassage hp hlt, hp.some hlt, hlt, Int.toNat_natCast]; try rfl) | refine T_seq ?_
    refine T_cond rfl (fun hq => ?_) (fun hq => ?_)
    · repeat' first | refine T_seq_region rfl ?_ | refine T_region rfl ?_ | refine T_ret ?_ | refine T_block ?_ | refine T_skip ?_ | refine T_exit ?_ | (simp (maxSteps := 2000000) only [go_sem, Nat.reduceAdd, Nat.reduceMul, Nat.reduceBEq, Nat.reduceLeDiff, Nat.reduceLT, Nat.reduceEqDiff]; try rfl) | refine T_seq ?_
      refine ⟨by simp only [maxLen]; omega, by omega, ?_⟩
      repeat' first | refine T_seq_region rfl ?_ | refine T_region rfl ?_ | refine T_ret ?_ | refine T_block ?_ | refine T_skip ?_ | refine T_exit ?_ | (simp (maxSteps := 2000000) only [go_sem, Nat.reduceAdd, Nat.reduceMul, Nat.reduceBEq, Nat.reduceLeDiff, Nat.reduceLT, Nat.reduceEqDiff]; try rfl) | refine T_seq ?_
      have hf : (a.pas.l.take (k + 1)).filter (fun p => decide (p.start < m)) = (a.pas.l.take k).filter (fun p => decide (p.start < m)) ++ [a.pas.l[k]] := filter_take_pos hlt (decide_eq_true (of_decide_eq_true hq))
      refine ⟨k + 1, [3], hlt, by omega, ?_⟩
      simp (maxSteps := 2000000) only [go_sem, Nat.reduceAdd, Nat.reduceMul, Nat.reduceBEq, Nat.reduceLeDiff, Nat.reduceLT, Nat.reduceEqDiff]
      refine ⟨svInt (wrapS hlt (by omega)), ?_, rfl⟩
      rw [hf, List.length_append, List.flatMap_append]
      rfl
    · have hf : (a.pas.l.take (k + 1)).filter (fun p => decide (p.start < m)) = (a.pas.l.take k).filter (fun p => decide (p.start < m)) := filter_take_neg hlt (decide_eq_false (of_decide_eq_false hq))
      repeat' first | refine T_seq_region rfl ?_ | refine T_region rfl ?_ | refine T_ret ?_ | refine T_block ?_ | refine T_skip ?_ | refine T_exit ?_ | (simp (maxSteps := 2000000) only [go_sem, Nat.reduceAdd, Nat.reduceMul, Nat.reduceBEq, Nat.reduceLeDiff, Nat.reduceLT, Nat.reduceEqDiff]; try rfl) | refine T_seq ?_
      refine ⟨k + 1, [0], hlt, by omega, ?_⟩
      simp (maxSteps := 2000000) only [go_sem, Nat.reduceAdd, Nat.reduceMul, Nat.reduceBEq, Nat.reduceLeDiff, Nat.reduceLT, Nat.reduceEqDiff]
      exact ⟨svInt (wrapS hlt (by omega)), by rw [hf], rfl⟩
  · have hge := ge_of_dec hd
    refine T_exit ?_
    simp (maxSteps := 2000000) only [go_sem, Nat.reduceAdd, Nat.reduceMul, Nat.reduceBEq, Nat.reduceLeDiff, Nat.reduceLT, Nat.reduceEqDiff]
    refine T_pubM 0 ((a.pas.l.take k).filter (fun p => decide (p.start < m))) rfl rfl rfl rfl (by decide) (fun x hx => hp.2.2.2.1 x (List.mem_of_mem_take (List.mem_filter.1 hx).1)) h (Hp.le_refl _) (Mines.flat (fun _ => rfl) (fun _ => trivial)) fun s h' e1 e2 e3 e4 => ?_
    repeat' first | refine T_seq_region rfl ?_ | refine T_region rfl ?_ | refine T_ret ?_ | refine T_block ?_ | refine T_skip ?_ | refine T_exit ?_ | (simp (maxSteps := 2000000) only [go_sem, Nat.reduceAdd, Nat.reduceMul, Nat.reduceBEq, Nat.reduceLeDiff, Nat.reduceLT, Nat.reduceEqDiff]; try rfl) | refine T_seq ?_
    exact ⟨s, rfl, by rw [con_pas, e1, List.take_of_length_le hge], e2, e4⟩
theorem spec_SailedBefore_fn (a : DOption) (m : Int) (h : Hp) (ha : Enc.ok h a) (hm : I64 m) (hz : Sz.sz (Con.con a) ≤ 1048576) : Ct Try.prog 40 [a.v, .int .i64 m] h fun v h' => ∃ s : Sl DPassage, v = s.val ∧ Con.con s = F_SailedBefore (Con.con a) m ∧ s.Ok h' ∧ Mine h h' s := by
  have hp := ha.2.2.2
  have hl := hp.max
  have hz : a.pas.l.length ≤ 1048576 := by
    have h2 : Sz.sz (Con.con a) = Sz.sz (Con.con a.pas) := rfl
    rw [h2] at hz
    have := sz_len hz
    rwa [con_len'] at this
  rw [F_SailedBefore, show (Con.con a).pas = a.pas.l from con_pas _]
  refine Ct_of_T (fun A W => by simp) Try.func40 rfl rfl (by simp) fun W0 => ?_
  repeat' first | refine T_seq_region rfl ?_ | refine T_region rfl ?_ | refine T_ret ?_ | refine T_block ?_ | refine T_skip ?_ | refine T_exit ?_ | (simp (maxSteps := 2000000) only [go_sem, Nat.reduceAdd, Nat.reduceMul, Nat.reduceBEq, Nat.reduceLeDiff, Nat.reduceLT, Nat.reduceEqDiff]; try rfl) | refine T_seq ?_
  refine T_loopG (ι := Nat) (fun k => ⟨[(1, true, .c (.v (.int .i64 m))), (5, true, .c (.s 0)), (10, true, .c (.v a.pas.val)), (11, true, .c (.v (.int .i64 a.pas.l.length))), (12, true, .c (.v (.int .i64 k)))], [(0, .row 85 5 ((a.pas.l.take k).filter (fun p => decide (p.start < m))).length (((a.pas.l.take k).filter (fun p => decide (p.start < m))).flatMap Enc.enc))], h, 1⟩) (fun k => k ≤ a.pas.l.length) (fun k => a.pas.l.length - k) 0 (Nat.zero_le _) [1] ?_ ?_
  · simp (maxSteps := 2000000) only [go_sem, Nat.reduceAdd, Nat.reduceMul, Nat.reduceBEq, Nat.reduceLeDiff, Nat.reduceLT, Nat.reduceEqDiff]
    first | exact rfl | exact ⟨rfl, rfl⟩ | exact ⟨rfl, rfl, rfl⟩ | exact ⟨rfl, rfl, rfl, rfl⟩ | exact ⟨rfl, rfl, rfl, rfl, rfl⟩
  intro k hk
  repeat' first | refine T_seq_region rfl ?_ | refine T_region rfl ?_ | refine T_ret ?_ | refine T_block ?_ | refine T_skip ?_ | refine T_exit ?_ | (simp (maxSteps := 2000000) only [go_sem, Nat.reduceAdd, Nat.reduceMul, Nat.reduceBEq, Nat.reduceLeDiff, Nat.reduceLT, Nat.reduceEqDiff]; try rfl) | refine T_seq ?_
  refine T_cond rfl (fun hd => ?_) (fun hd => ?_)
  · have hlt := lt_of_dec hd
    have hlf : ((a.pas.l.take k).filter (fun p => decide (p.start < m))).length ≤ k := Nat.le_trans (List.length_filter_le _ _) (by rw [List.length_take]; omega)
    repeat' first | refine T_seq_region rfl ?_ | refine T_region rfl ?_ | refine T_ret ?_ | refine T_block ?_ | refine T_skip ?_ | refine T_exit ?_ | (simp (maxSteps := 2000000) only [go_sem, Nat.reduceAdd, Nat.reduceMul, Nat.reduceBEq, Nat.reduceLeDiff, Nat.reduceLT, Nat.reduceEqDiff, at_DPassage hp hlt, hp.some hlt, hlt, Int.toNat_natCast]; try rfl) | refine T_seq ?_
    refine T_cond rfl (fun hq => ?_) (fun hq => ?_)
    · repeat' first | refine T_seq_region rfl ?_ | refine T_region rfl ?_ | refine T_ret ?_ | refine T_block ?_ | refine T_skip ?_ | refine T_exit ?_ | (simp (maxSteps := 2000000) only [go_sem, Nat.reduceAdd, Nat.reduceMul, Nat.reduceBEq, Nat.reduceLeDiff, Nat.reduceLT, Nat.reduceEqDiff]; try rfl) | refine T_seq ?_
      refine ⟨by simp only [maxLen]; omega, by omega, ?_⟩
      repeat' first | refine T_seq_region rfl ?_ | refine T_region rfl ?_ | refine T_ret ?_ | refine T_block ?_ | refine T_skip ?_ | refine T_exit ?_ | (simp (maxSteps := 2000000) only [go_sem, Nat.reduceAdd, Nat.reduceMul, Nat.reduceBEq, Nat.reduceLeDiff, Nat.reduceLT, Nat.reduceEqDiff]; try rfl) | refine T_seq ?_
      have hf : (a.pas.l.take (k + 1)).filter (fun p => decide (p.start < m)) = (a.pas.l.take k).filter (fun p => decide (p.start < m)) ++ [a.pas.l[k]] := filter_take_pos hlt (decide_eq_true (of_decide_eq_true hq))
      refine ⟨k + 1, [3], hlt, by omega, ?_⟩
      simp (maxSteps := 2000000) only [go_sem, Nat.reduceAdd, Nat.reduceMul, Nat.reduceBEq, Nat.reduceLeDiff, Nat.reduceLT, Nat.reduceEqDiff]
      refine ⟨svInt (wrapS hlt (by omega)), ?_, rfl⟩
      rw [hf, List.length_append, List.flatMap_append]
      rfl
    · have hf : (a.pas.l.take (k + 1)).filter (fun p => decide (p.start < m)) = (a.pas.l.take k).filter (fun p => decide (p.start < m)) := filter_take_neg hlt (decide_eq_false (of_decide_eq_false hq))
      repeat' first | refine T_seq_region rfl ?_ | refine T_region rfl ?_ | refine T_ret ?_ | refine T_block ?_ | refine T_skip ?_ | refine T_exit ?_ | (simp (maxSteps := 2000000) only [go_sem, Nat.reduceAdd, Nat.reduceMul, Nat.reduceBEq, Nat.reduceLeDiff, Nat.reduceLT, Nat.reduceEqDiff]; try rfl) | refine T_seq ?_
      refine ⟨k + 1, [0], hlt, by omega, ?_⟩
      simp (maxSteps := 2000000) only [go_sem, Nat.reduceAdd, Nat.reduceMul, Nat.reduceBEq, Nat.reduceLeDiff, Nat.reduceLT, Nat.reduceEqDiff]
      exact ⟨svInt (wrapS hlt (by omega)), by rw [hf], rfl⟩
  · have hge := ge_of_dec hd
    refine T_exit ?_
    simp (maxSteps := 2000000) only [go_sem, Nat.reduceAdd, Nat.reduceMul, Nat.reduceBEq, Nat.reduceLeDiff, Nat.reduceLT, Nat.reduceEqDiff]
    refine T_pubM 0 ((a.pas.l.take k).filter (fun p => decide (p.start < m))) rfl rfl rfl rfl (by decide) (fun x hx => hp.2.2.2.1 x (List.mem_of_mem_take (List.mem_filter.1 hx).1)) h (Hp.le_refl _) (Mines.flat (fun _ => rfl) (fun _ => trivial)) fun s h' e1 e2 e3 e4 => ?_
    repeat' first | refine T_seq_region rfl ?_ | refine T_region rfl ?_ | refine T_ret ?_ | refine T_block ?_ | refine T_skip ?_ | refine T_exit ?_ | (simp (maxSteps := 2000000) only [go_sem, Nat.reduceAdd, Nat.reduceMul, Nat.reduceBEq, Nat.reduceLeDiff, Nat.reduceLT, Nat.reduceEqDiff]; try rfl) | refine T_seq ?_
    exact ⟨s, rfl, by rw [con_pas, e1, List.take_of_length_le hge], e2, e4⟩
def F_ChainsOf (l : List POption) : List (List DPassage) := l.map (·.pas)
theorem F_ChainsOf_def (a : Sl DOption) : F_ChainsOf (Con.con a) = a.l.map (fun o => o.pas.l) := by
  rw [F_ChainsOf, con_sl, List.map_map]
  exact List.map_congr_left fun o _ => con_pas o.pas
theorem con_pass (s : Sl (Sl DPassage)) : Con.con s = s.l.map (·.l) := List.map_congr_left fun x _ => con_pas x
theorem impl_ChainsOf_fn (a : Sl DOption) (h : Hp) (ha : a.Ok h) (hz : Sz.sz (Con.con a) ≤ 1048576) : Ct Try.prog 56 [a.val] h fun v h' => ∃ s : Sl (Sl DPassage), v = s.val ∧ Con.con s = F_ChainsOf (Con.con a) ∧ s.Ok h' ∧ Mine h h' s := by
  have hl := ha.max
  have hz1 := sz_len hz
  rw [con_len'] at hz1
  have hzp : ∀ k (hk : k < a.l.length), a.l[k].pas.l.length ≤ 1048576 := fun k hk => by
    have h1 : Sz.sz (Con.con a.l[k]) ≤ 1048576 := sz_mem hz (by rw [con_sl]; exact List.mem_map_of_mem (List.getElem_mem hk))
    have h2 : Sz.sz (Con.con a.l[k]) = Sz.sz (Con.con a.l[k].pas) := rfl
    rw [h2] at h1
    have := sz_len h1
    rwa [con_len'] at this
  rw [F_ChainsOf_def]
  refine Ct_of_T (fun A W => by simp) Try.func56 rfl rfl (by simp) fun W0 => ?_
  repeat' first | refine T_seq_region rfl ?_ | refine T_region rfl ?_ | refine T_ret ?_ | refine T_block ?_ | refine T_skip ?_ | refine T_exit ?_ | (simp (maxSteps := 2000000) only [go_sem, Nat.reduceAdd, Nat.reduceMul, Nat.reduceBEq, Nat.reduceLeDiff, Nat.reduceLT, Nat.reduceEqDiff]; try rfl) | refine T_seq ?_
  refine T_loopG (ι := Nat × List (Sl DPassage) × Hp) (fun i => ⟨[(3, true, .c (.s 0)), (7, true, .c (.v a.val)), (8, true, .c (.v (.int .i64 a.l.length))), (9, true, .c (.v (.int .i64 i.1)))], [(0, .row 45 1 i.1 (i.2.1.flatMap Enc.enc))], i.2.2, 1⟩) (fun i => i.1 ≤ a.l.length ∧ i.2.1.length = i.1 ∧ i.2.1.map (·.l) = (a.l.take i.1).map (fun o => o.pas.l) ∧ (∀ d ∈ i.2.1, Enc.ok i.2.2 d) ∧ h.le i.2.2 ∧ Mines h i.2.2 i.2.1) (fun i => a.l.length - i.1) (0, [], h) ⟨Nat.zero_le _, rfl, rfl, fun _ h => (by cases h), Hp.le_refl _, Mines.nil⟩ [0] ?_ ?_
  · simp (maxSteps := 2000000) only [go_sem, Nat.reduceAdd, Nat.reduceMul, Nat.reduceBEq, Nat.reduceLeDiff, Nat.reduceLT, Nat.reduceEqDiff]
    first | exact rfl | exact ⟨rfl, rfl⟩ | exact ⟨rfl, rfl, rfl⟩ | exact ⟨rfl, rfl, rfl, rfl⟩ | exact ⟨rfl, rfl, rfl, rfl, rfl⟩
  rintro ⟨k, ds, hk⟩ ⟨hi, hn, hm, ho, hle, hmi⟩
  simp only at hi hn hm ho hle hmi
  have ha' := ha.mono hle
  repeat' first | refine T_seq_region rfl ?_ | refine T_region rfl ?_ | refine T_ret ?_ | refine T_block ?_ | refine T_skip ?_ | refine T_exit ?_ | (simp (maxSteps := 2000000) only [go_sem, Nat.reduceAdd, Nat.reduceMul, Nat.reduceBEq, Nat.reduceLeDiff, Nat.reduceLT, Nat.reduceEqDiff]; try rfl) | refine T_seq ?_
  refine T_cond rfl (fun hd => ?_) (fun hd => ?_)
  · have hlt := lt_of_dec hd
    have hp := (ha'.el hlt).2.2.2
    repeat' first | refine T_seq_region rfl ?_ | refine T_region rfl ?_ | refine T_ret ?_ | refine T_block ?_ | refine T_skip ?_ | refine T_exit ?_ | (simp (maxSteps := 2000000) only [go_sem, Nat.reduceAdd, Nat.reduceMul, Nat.reduceBEq, Nat.reduceLeDiff, Nat.reduceLT, Nat.reduceEqDiff, at_DOption ha' hlt, ha'.some hlt, hlt, Int.toNat_natCast]; try rfl) | refine T_seq ?_
    refine vfn_at (impl_clonePassage_fn _ _ hp (hzp k hlt)) rfl ?_
    rintro v h1 hle1 ⟨d, rfl, e1, e2, e3⟩
    repeat' first | refine T_seq_region rfl ?_ | refine T_region rfl ?_ | refine T_ret ?_ | refine T_block ?_ | refine T_skip ?_ | refine T_exit ?_ | (simp (maxSteps := 2000000) only [go_sem, Nat.reduceAdd, Nat.reduceMul, Nat.reduceBEq, Nat.reduceLeDiff, Nat.reduceLT, Nat.reduceEqDiff]; try rfl) | refine T_seq ?_
    refine ⟨by simp only [maxLen]; omega, by omega, ?_⟩
    repeat' first | refine T_seq_region rfl ?_ | refine T_region rfl ?_ | refine T_ret ?_ | refine T_block ?_ | refine T_skip ?_ | refine T_exit ?_ | (simp (maxSteps := 2000000) only [go_sem, Nat.reduceAdd, Nat.reduceMul, Nat.reduceBEq, Nat.reduceLeDiff, Nat.reduceLT, Nat.reduceEqDiff]; try rfl) | refine T_seq ?_
    refine ⟨(k + 1, ds ++ [d], h1), [3], ⟨hlt, by simp [hn], by rw [List.map_append, hm, map_take_succ hlt, ← e1]; rfl, fun x hx => ?_, Hp.le_trans hle hle1, hmi.snoc ho hle1 hle e3⟩, by simp only; omega, ?_⟩
    · rcases List.mem_append.1 hx with hx | hx
      · exact Enc.mono hle1 (ho x hx)
      · rw [List.mem_singleton.1 hx]; exact e2
    simp (maxSteps := 2000000) only [go_sem, Nat.reduceAdd, Nat.reduceMul, Nat.reduceBEq, Nat.reduceLeDiff, Nat.reduceLT, Nat.reduceEqDiff]
    refine ⟨svInt (wrapS hlt (by omega)), ?_, Hp.le_trans hle hle1, rfl⟩
    rw [List.flatMap_append]
    rfl
  · have hge := ge_of_dec hd
    have hke : k = a.l.length := Nat.le_antisymm hi hge
    refine T_exit ?_
    simp (maxSteps := 2000000) only [go_sem, Nat.reduceAdd, Nat.reduceMul, Nat.reduceBEq, Nat.reduceLeDiff, Nat.reduceLT, Nat.reduceEqDiff]
    refine T_pubM 0 ds rfl rfl hn.symm rfl (by decide) ho h hle hmi fun s h' e1 e2 e3 e4 => ?_
    repeat' first | refine T_seq_region rfl ?_ | refine T_region rfl ?_ | refine T_ret ?_ | refine T_block ?_ | refine T_skip ?_ | refine T_exit ?_ | (simp (maxSteps := 2000000) only [go_sem, Nat.reduceAdd, Nat.reduceMul, Nat.reduceBEq, Nat.reduceLeDiff, Nat.reduceLT, Nat.reduceEqDiff]; try rfl) | refine T_seq ?_
    exact ⟨s, rfl, by rw [con_pass, e1, hm, hke, List.take_length], e2, e4⟩
theorem spec_ChainsOf_fn (a : Sl DOption) (h : Hp) (ha : a.Ok h) (hz : Sz.sz (Con.con a) ≤ 1048576) : Ct Try.prog 55 [a.val] h fun v h' => ∃ s : Sl (Sl DPassage), v = s.val ∧ Con.con s = F_ChainsOf (Con.con a) ∧ s.Ok h' ∧ Mine h h' s := by
  have hl := ha.max
  have hz1 := sz_len hz
  rw [con_len'] at hz1
  have hzp : ∀ k (hk : k < a.l.length), a.l[k].pas.l.length ≤ 1048576 := fun k hk => by
    have h1 : Sz.sz (Con.con a.l[k]) ≤ 1048576 := sz_mem hz (by rw [con_sl]; exact List.mem_map_of_mem (List.getElem_mem hk))
    have h2 : Sz.sz (Con.con a.l[k]) = Sz.sz (Con.con a.l[k].pas) := rfl
    rw [h2] at h1
    have := sz_len h1
    rwa [con_len'] at this
  rw [F_ChainsOf_def]
  refine Ct_of_T (fun A W => by simp) Try.func55 rfl rfl (by simp) fun W0 => ?_
  repeat' first | refine T_seq_region rfl ?_ | refine T_region rfl ?_ | refine T_ret ?_ | refine T_block ?_ | refine T_skip ?_ | refine T_exit ?_ | (simp (maxSteps := 2000000) only [go_sem, Nat.reduceAdd, Nat.reduceMul, Nat.reduceBEq, Nat.reduceLeDiff, Nat.reduceLT, Nat.reduceEqDiff]; try rfl) | refine T_seq ?_
  refine T_loopG (ι := Nat × List (Sl DPassage) × Hp) (fun i => ⟨[(3, true, .c (.s 0)), (7, true, .c (.v a.val)), (8, true, .c (.v (.int .i64 a.l.length))), (9, true, .c (.v (.int .i64 i.1)))], [(0, .row 45 1 i.1 (i.2.1.flatMap Enc.enc))], i.2.2, 1⟩) (fun i => i.1 ≤ a.l.length ∧ i.2.1.length = i.1 ∧ i.2.1.map (·.l) = (a.l.take i.1).map (fun o => o.pas.l) ∧ (∀ d ∈ i.2.1, Enc.ok i.2.2 d) ∧ h.le i.2.2 ∧ Mines h i.2.2 i.2.1) (fun i => a.l.length - i.1) (0, [], h) ⟨Nat.zero_le _, rfl, rfl, fun _ h => (by cases h), Hp.le_refl _, Mines.nil⟩ [0] ?_ ?_
  · simp (maxSteps := 2000000) only [go_sem, Nat.reduceAdd, Nat.reduceMul, Nat.reduceBEq, Nat.reduceLeDiff, Nat.reduceLT, Nat.reduceEqDiff]
    first | exact rfl | exact ⟨rfl, rfl⟩ | exact ⟨rfl, rfl, rfl⟩ | exact ⟨rfl, rfl, rfl, rfl⟩ | exact ⟨rfl, rfl, rfl, rfl, rfl⟩
  rintro ⟨k, ds, hk⟩ ⟨hi, hn, hm, ho, hle, hmi⟩
  simp only at hi hn hm ho hle hmi
  have ha' := ha.mono hle
  repeat' first | refine T_seq_region rfl ?_ | refine T_region rfl ?_ | refine T_ret ?_ | refine T_block ?_ | refine T_skip ?_ | refine T_exit ?_ | (simp (maxSteps := 2000000) only [go_sem, Nat.reduceAdd, Nat.reduceMul, Nat.reduceBEq, Nat.reduceLeDiff, Nat.reduceLT, Nat.reduceEqDiff]; try rfl) | refine T_seq ?_
  refine T_cond rfl (fun hd => ?_) (fun hd => ?_)
  · have hlt := lt_of_dec hd
    have hp := (ha'.el hlt).2.2.2
    have hall := hp.all (by decide)
    have hall : hk.ldL a.l[k].pas.val 5 = some (a.l[k].pas.l.flatMap Enc.enc) := hall
    refine T_skip ?_
    simp (maxSteps := 2000000) only [go_sem, Nat.reduceAdd, Nat.reduceMul, Nat.reduceBEq, Nat.reduceLeDiff, Nat.reduceLT, Nat.reduceEqDiff]
    refine T_seq ?_
    refine T_block ?_
    refine T_seq_region rfl ?_
    simp (maxSteps := 2000000) only [go_sem, Nat.reduceAdd, Nat.reduceMul, Nat.reduceBEq, Nat.reduceLeDiff, Nat.reduceLT, Nat.reduceEqDiff, at_DOption ha' hlt, ha'.some hlt, hlt, Int.toNat_natCast]
    refine T_regionX [0, 0, 0, 0, 2] rfl ?_
    simp (maxSteps := 2000000) only [go_sem, Nat.reduceAdd, Nat.reduceMul, Nat.reduceBEq, Nat.reduceLeDiff, Nat.reduceLT, Nat.reduceEqDiff, hall, Option.isSome_some, Option.getD_some]
    have hzk := hzp k hlt
    refine ⟨fun u hu => by obtain ⟨x, _, hx⟩ := List.mem_flatMap.1 hu; exact Enc.one x u hx, by simp only [maxLen]; omega, by omega, ?_⟩
    intro ad cap h1 hpub
    rw [Nat.zero_add] at hpub ⊢
    have e2 : (Sl.mk ad cap a.l[k].pas.l).Ok h1 := hpub.sl (by decide) (fun x hx => hp.2.2.2.1 x hx)
    have e3 : Mine hk h1 (Sl.mk ad cap a.l[k].pas.l) := hpub.mine (Hp.le_refl _) (fun x hx => hp.2.2.2.1 x hx) (Mines.flat (fun _ => rfl) (fun _ => trivial))
    have hle1 := hpub.le
    obtain ⟨d, hd'⟩ : ∃ d : Sl DPassage, d = Sl.mk ad cap a.l[k].pas.l := ⟨_, rfl⟩
    have e1 : d.l = a.l[k].pas.l := by rw [hd']
    rw [← hd'] at e2 e3
    have hv : Value.slice ad a.l[k].pas.l.length cap = d.val := by rw [hd']; rfl
    rw [hv]
    refine ⟨by simp only [maxLen]; omega, by omega, ?_⟩
    repeat' first | refine T_seq_region rfl ?_ | refine T_region rfl ?_ | refine T_ret ?_ | refine T_block ?_ | refine T_skip ?_ | refine T_exit ?_ | (simp (maxSteps := 2000000) only [go_sem, Nat.reduceAdd, Nat.reduceMul, Nat.reduceBEq, Nat.reduceLeDiff, Nat.reduceLT, Nat.reduceEqDiff]; try rfl) | refine T_seq ?_
    refine ⟨(k + 1, ds ++ [d], h1), [5], ⟨hlt, by simp [hn], by rw [List.map_append, hm, map_take_succ hlt, ← e1]; rfl, fun x hx => ?_, Hp.le_trans hle hle1, hmi.snoc ho hle1 hle e3⟩, by simp only; omega, ?_⟩
    · rcases List.mem_append.1 hx with hx | hx
      · exact Enc.mono hle1 (ho x hx)
      · rw [List.mem_singleton.1 hx]; exact e2
    simp (maxSteps := 2000000) only [go_sem, Nat.reduceAdd, Nat.reduceMul, Nat.reduceBEq, Nat.reduceLeDiff, Nat.reduceLT, Nat.reduceEqDiff]
    refine ⟨svInt (wrapS hlt (by omega)), ?_, Hp.le_trans hle hle1, rfl⟩
    rw [List.flatMap_append]
    rfl
  · have hge := ge_of_dec hd
    have hke : k = a.l.length := Nat.le_antisymm hi hge
    refine T_exit ?_
    simp (maxSteps := 2000000) only [go_sem, Nat.reduceAdd, Nat.reduceMul, Nat.reduceBEq, Nat.reduceLeDiff, Nat.reduceLT, Nat.reduceEqDiff]
    refine T_pubM 0 ds rfl rfl hn.symm rfl (by decide) ho h hle hmi fun s h' e1 e2 e3 e4 => ?_
    repeat' first | refine T_seq_region rfl ?_ | refine T_region rfl ?_ | refine T_ret ?_ | refine T_block ?_ | refine T_skip ?_ | refine T_exit ?_ | (simp (maxSteps := 2000000) only [go_sem, Nat.reduceAdd, Nat.reduceMul, Nat.reduceBEq, Nat.reduceLeDiff, Nat.reduceLT, Nat.reduceEqDiff]; try rfl) | refine T_seq ?_
    exact ⟨s, rfl, by rw [con_pass, e1, hm, hke, List.take_length], e2, e4⟩
theorem sz_F_SailedBefore (a : POption) (m : Int) (hz : Sz.sz a ≤ 1048576) : Sz.sz (F_SailedBefore a m) ≤ 1048576 := by
  rw [sz_flatl (fun _ => rfl), F_SailedBefore]
  have h2 : Sz.sz a = Sz.sz a.pas := rfl
  rw [h2] at hz
  exact Nat.le_trans (List.length_filter_le _ _) (sz_len hz)
theorem sz_F_ChainsOf (a : List POption) (hz : Sz.sz a ≤ 1048576) : Sz.sz (F_ChainsOf a) ≤ 1048576 := by
  have : Sz.sz (F_ChainsOf a) = Sz.sz a := by
    rw [F_ChainsOf, sz_list, sz_list, List.length_map, List.map_map]
    rfl
  rw [this]; exact hz
end Go.Proofs.Ytkoghfeelonhhaa
