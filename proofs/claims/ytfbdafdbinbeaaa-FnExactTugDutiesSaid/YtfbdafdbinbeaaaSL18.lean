/- Plain theorems about the model: a symbolic state, its evaluation and its soundness. No condition; nothing of the program is named. -/
import Derived.Test.YtfbdafdbinbeaaaSL17
set_option linter.unusedVariables false
set_option linter.unusedSimpArgs false
namespace Go.SL
open Go Go.RowKit
theorem made1 (v : Value) (n : Nat) : (madeCells #[v] (n * 1)).toList = List.replicate n v := by
  apply List.ext_getElem?
  intro i
  simp only [madeCells, Nat.mul_one]
  by_cases hi : i < n
  · simp [hi, Nat.mod_one]
  · simp [hi]
/-- The row of ints, k of them already copied. -/
def copied {α : Type} [Enc α] (l : List α) (k : Nat) (z : List Value) : List Value := (l.take k).flatMap Enc.enc ++ (List.replicate (l.length - k) z).flatten
theorem copied_len {α : Type} [Enc α] {l : List α} {k : Nat} {z : List Value} (hk : k ≤ l.length) (hz : z.length = Enc.size α) : (copied l k z).length = l.length * Enc.size α := by
  rw [copied, List.length_append, flat_length Enc.len, List.length_take, Nat.min_eq_left hk, List.length_flatten, List.map_replicate, List.sum_replicate_nat, hz, ← Nat.add_mul]
  congr 1; omega
theorem copied_all {α : Type} [Enc α] {l : List α} {k : Nat} {z : List Value} (hk : l.length ≤ k) : copied l k z = l.flatMap Enc.enc := by
  rw [copied, List.take_of_length_le hk, Nat.sub_eq_zero_of_le hk]; simp
theorem copied_next {α : Type} [Enc α] {l : List α} {k : Nat} {z : List Value} (hk : k < l.length) (hz : z.length = Enc.size α) : spliceC (k * Enc.size α) (Enc.enc l[k]) (copied l k z) = copied l (k + 1) z := by
  have h1 : ((l.take k).flatMap Enc.enc).length = k * Enc.size α := by rw [flat_length Enc.len, List.length_take, Nat.min_eq_left (Nat.le_of_lt hk)]
  obtain ⟨m, hm⟩ : ∃ m, l.length - k = m + 1 := ⟨l.length - k - 1, by omega⟩
  have hm' : l.length - (k + 1) = m := by omega
  unfold spliceC copied
  rw [hm, hm', List.replicate_succ, List.flatten_cons]
  rw [List.take_left' h1, List.drop_append, h1, Enc.len, List.drop_eq_nil_of_le (by rw [h1]; omega), List.nil_append, Nat.add_sub_cancel_left, List.drop_left' hz, List.take_succ_eq_append_getElem hk, List.flatMap_append]
  simp
theorem copied0 {α : Type} [Enc α] {l : List α} {z : List Value} : copied l 0 z = (List.replicate l.length z).flatten := by simp [copied]
theorem flat_rep {α : Type} (n : Nat) (z : List α) : (List.replicate n z).flatten = (List.replicate n ()).flatMap fun _ => z := by
  induction n with
  | zero => rfl
  | succ n ih => rw [List.replicate_succ, List.replicate_succ, List.flatten_cons, List.flatMap_cons, ih]
theorem madeN {z : Array Value} (n : Nat) (hz : 0 < z.size) : (madeCells z (n * z.size)).toList = (List.replicate n z.toList).flatten := by
  apply List.ext_getElem?
  intro i
  rw [flat_rep, flat_get (k := z.size) (fun _ => by simp) hz]
  simp only [madeCells]
  by_cases hi : i < n * z.size
  · have hd : i / z.size < n := (Nat.div_lt_iff_lt_mul hz).2 hi
    have hm : i % z.size < z.size := Nat.mod_lt _ hz
    simp [hi, hd, hm]
  · have hd : ¬ i / z.size < n := fun h => hi ((Nat.div_lt_iff_lt_mul hz).1 h)
    simp [hi, hd]
theorem made1c {α : Type} [Enc α] {l : List α} {v : Value} : (madeCells #[v] (l.length * 1)).toList = copied l 0 [v] := by
  rw [copied0]; exact madeN (z := #[v]) l.length (by simp)
theorem row_ext {e : TypeId} {sz n : Nat} {xs ys : List Value} (h : xs = ys) : (some (PB.row e sz n xs) : Option PB) = some (PB.row e sz n ys) := by rw [h]
/-- The row of n elements, some already made. -/
def conv {α : Type} [Enc α] (ds : List α) (n : Nat) (z : List Value) : List Value := ds.flatMap Enc.enc ++ (List.replicate (n - ds.length) z).flatten
theorem conv_len {α : Type} [Enc α] {ds : List α} {n : Nat} {z : List Value} (hk : ds.length ≤ n) (hz : z.length = Enc.size α) : (conv ds n z).length = n * Enc.size α := by
  rw [conv, List.length_append, flat_length Enc.len, List.length_flatten, List.map_replicate, List.sum_replicate_nat, hz, ← Nat.add_mul]
  congr 1; omega
theorem conv_all {α : Type} [Enc α] {ds : List α} {n : Nat} {z : List Value} (hk : n ≤ ds.length) : conv ds n z = ds.flatMap Enc.enc := by
  rw [conv, Nat.sub_eq_zero_of_le hk]; simp
theorem conv_next {α : Type} [Enc α] {ds : List α} {d : α} {k n : Nat} {z : List Value} (hd : ds.length = k) (hk : k < n) (hz : z.length = Enc.size α) : spliceC (k * Enc.size α) (Enc.enc d) (conv ds n z) = conv (ds ++ [d]) n z := by
  subst hd
  have h1 : (ds.flatMap Enc.enc).length = ds.length * Enc.size α := by rw [flat_length Enc.len]
  obtain ⟨m, hm⟩ : ∃ m, n - ds.length = m + 1 := ⟨n - ds.length - 1, by omega⟩
  have hm' : n - (ds ++ [d]).length = m := by rw [List.length_append, List.length_singleton]; omega
  unfold spliceC conv
  rw [hm, hm', List.replicate_succ, List.flatten_cons]
  rw [List.take_left' h1, List.drop_append, h1, Enc.len, List.drop_eq_nil_of_le (by rw [h1]; omega), List.nil_append, Nat.add_sub_cancel_left, List.drop_left' hz, List.flatMap_append]
  simp
theorem madeC {α : Type} [Enc α] {n : Nat} {z : Array Value} (hz : 0 < z.size) : (madeCells z (n * z.size)).toList = conv ([] : List α) n z.toList := by
  rw [madeN n hz]; simp [conv]
section
variable {x y z : Operand} {t t' : TypeId} {b : BinOp} {u : UnOp} {n : Nat} {as : Array Operand} {ts : Array TypeId}
@[go_sem] theorem ev_isQ1 : isQ (.move x) = true := rfl
@[go_sem] theorem ev_isQ2 : isQ (.assign x) = true := rfl
@[go_sem] theorem ev_isQ3 : isQ (.pick x y z) = true := rfl
@[go_sem] theorem ev_isQ4 : isQ (.load t x) = true := rfl
@[go_sem] theorem ev_isQ5 : isQ (.nilCheck x) = true := rfl
@[go_sem] theorem ev_isQ6 : isQ (.binOp b t x y t') = true := rfl
@[go_sem] theorem ev_isQ7 : isQ (.unOp u t x) = true := rfl
@[go_sem] theorem ev_isQ8 : isQ (.convert t t' x) = true := rfl
@[go_sem] theorem ev_isQ9 : isQ (.fieldAddr t x n) = true := rfl
@[go_sem] theorem ev_isQ10 : isQ (.field t x n) = true := rfl
@[go_sem] theorem ev_isQ11 : isQ (.indexAddr t x y) = true := rfl
@[go_sem] theorem ev_isQ12 : isQ (.index t x y) = true := rfl
@[go_sem] theorem ev_isQ13 : isQ (.extract x n) = true := rfl
@[go_sem] theorem ev_isQ14 : isQ (.call ⟨.builtin .len, as, ts⟩) = true := rfl
end
/-- A call, the view named. -/
theorem vfn_at {P : Program} {st : St} {f : FuncId} {xs : List Value} {M : Value → Hp → Prop} {R : Value → Hp → Prop} {h0 : Hp} (h : Ct P f xs h0 R) (hh : st.h = h0) (hk : ∀ v h', h0.le h' → R v h' → M v h') : vfn P st true f xs M := by
  subst hh
  exact vfn_use h hk
end Go.SL
