/- Plain theorems about the model: a symbolic state, its evaluation and its soundness. No condition; nothing of the program is named. -/
import Derived.Test.YtfbdafdbinbeaaaSLF
set_option linter.unusedVariables false
set_option linter.unusedSimpArgs false
namespace Go.SL
open Go Go.RowKit

/-! ### marking -/
class Mk (α : Type) where
  put : α → Int → α
  cnt : α → Nat
def mkL {α : Type} [Mk α] : List α → Int → List α
  | [], _ => []
  | x :: l, k => Mk.put x k :: mkL l (k + Mk.cnt x)
def cntL {α : Type} [Mk α] (l : List α) : Nat := (l.map Mk.cnt).sum
instance {α : Type} [Mk α] : Mk (Sl α) := ⟨fun s k => ⟨s.a, s.cap, mkL s.l k⟩, fun s => cntL s.l⟩
instance : Mk Int := ⟨fun _ k => k, fun _ => 1⟩
section
variable {α : Type} [Mk α]
theorem cntL_nil : cntL ([] : List α) = 0 := rfl
theorem cntL_cons {x : α} {l : List α} : cntL (x :: l) = Mk.cnt x + cntL l := by simp [cntL]
theorem cntL_append {l m : List α} : cntL (l ++ m) = cntL l + cntL m := by simp [cntL]
theorem mkL_length : ∀ {l : List α} {k : Int}, (mkL l k).length = l.length
  | [], _ => rfl
  | x :: l, k => by simp [mkL, mkL_length]
theorem mkL_append : ∀ {l m : List α} {k : Int}, mkL (l ++ m) k = mkL l k ++ mkL m (k + cntL l)
  | [], m, k => by simp [mkL, cntL_nil]
  | x :: l, m, k => by
    rw [List.cons_append, mkL, mkL, mkL_append, cntL_cons, List.cons_append]
    congr 3
    omega
theorem mkL_take {l : List α} {k : Int} {i : Nat} (hi : i < l.length) : mkL (l.take (i + 1)) k = mkL (l.take i) k ++ [Mk.put l[i] (k + cntL (l.take i))] := by
  rw [List.take_succ_eq_append_getElem hi, mkL_append]; rfl
theorem cntL_take {l : List α} {i : Nat} (hi : i < l.length) : cntL (l.take (i + 1)) = cntL (l.take i) + Mk.cnt l[i] := by
  rw [List.take_succ_eq_append_getElem hi, cntL_append, cntL_cons, cntL_nil]; omega
theorem cntL_take_le {l : List α} {i : Nat} : cntL (l.take i) ≤ cntL l := by
  conv => rhs; rw [← List.take_append_drop i l, cntL_append]
  omega
/-- i elements are marked. -/
def mkd (l : List α) (k : Int) (i : Nat) : List α := mkL (l.take i) k ++ l.drop i
theorem mkd_zero {l : List α} {k : Int} : mkd l k 0 = l := by simp [mkd, mkL]
theorem mkd_all {l : List α} {k : Int} {i : Nat} (hi : l.length ≤ i) : mkd l k i = mkL l k := by simp [mkd, List.take_of_length_le hi, List.drop_eq_nil_of_le hi]
theorem mkd_length {l : List α} {k : Int} {i : Nat} : (mkd l k i).length = l.length := by
  simp only [mkd, List.length_append, mkL_length, List.length_take, List.length_drop]; omega
theorem mkd_get {l : List α} {k : Int} {i : Nat} (hi : i < l.length) : (mkd l k i)[i]'(by rw [mkd_length]; exact hi) = l[i] := by
  have h1 : (mkL (l.take i) k).length = i := by rw [mkL_length, List.length_take]; omega
  simp only [mkd]
  rw [List.getElem_append_right (by omega)]
  simp [h1]
theorem mkd_next {l : List α} {k : Int} {i : Nat} (hi : i < l.length) : (mkd l k i).set i (Mk.put l[i] (k + cntL (l.take i))) = mkd l k (i + 1) := by
  have h1 : (mkL (l.take i) k).length = i := by rw [mkL_length, List.length_take]; omega
  simp only [mkd]
  rw [List.set_append_right i _ (by omega), h1, Nat.sub_self, mkL_take hi, List.drop_eq_getElem_cons hi, List.set_cons_zero, List.append_assoc]
  rfl
end

/-! ### a block of elements -/
def rowL {α : Type} [Enc α] (l : List α) (spare : List Value) : List Value := l.flatMap Enc.enc ++ spare
theorem rowL_len {α : Type} [Enc α] {l : List α} {spare : List Value} : (rowL l spare).length = l.length * Enc.size α + spare.length := by rw [rowL, List.length_append, flat_length Enc.len]
theorem rowL_set {α : Type} [Enc α] {l : List α} {spare : List Value} {i : Nat} {x : α} (hi : i < l.length) : spliceC (i * Enc.size α) (Enc.enc x) (rowL l spare) = rowL (l.set i x) spare := by
  have h1 : ((l.take i).flatMap Enc.enc).length = i * Enc.size α := by rw [flat_length Enc.len, List.length_take, Nat.min_eq_left (Nat.le_of_lt hi)]
  have e1 : rowL l spare = (l.take i).flatMap Enc.enc ++ (Enc.enc l[i] ++ ((l.drop (i + 1)).flatMap Enc.enc ++ spare)) := by
    have e0 : l = l.take i ++ l[i] :: l.drop (i + 1) := by rw [← List.drop_eq_getElem_cons hi, List.take_append_drop]
    have := congrArg (fun z => z.flatMap Enc.enc ++ spare) e0
    simp only [List.flatMap_append, List.flatMap_cons, List.append_assoc] at this
    exact this
  have e2 : rowL (l.set i x) spare = (l.take i).flatMap Enc.enc ++ (Enc.enc x ++ ((l.drop (i + 1)).flatMap Enc.enc ++ spare)) := by
    rw [rowL, List.set_eq_take_append_cons_drop, if_pos hi]
    simp
  rw [e1, e2, spliceC, List.take_left' h1, List.drop_append, h1, Enc.len, List.drop_eq_nil_of_le (by rw [h1]; omega), List.nil_append, Nat.add_sub_cancel_left, List.drop_left' (Enc.len _)]
theorem splice_next {o : Nat} {m : List Value} {v : Value} {xs : List Value} (hl : o + m.length < xs.length) : spliceC (o + m.length) [v] (spliceC o m xs) = spliceC o (m ++ [v]) xs := by
  have h1 : (xs.take o).length = o := by rw [List.length_take]; omega
  simp only [spliceC]
  rw [List.take_append, h1, List.take_of_length_le (by omega), Nat.add_sub_cancel_left, List.take_left' rfl, List.drop_append, h1, List.drop_eq_nil_of_le (by omega), List.nil_append, List.length_singleton,
    show o + m.length + 1 - o = m.length + 1 by omega, List.drop_append, List.drop_eq_nil_of_le (by omega), List.nil_append, Nat.add_sub_cancel_left, List.drop_drop, List.length_append, List.length_singleton]
  simp [Nat.add_assoc]
theorem splice_len {o : Nat} {m xs : List Value} (h : o + m.length ≤ xs.length) : (spliceC o m xs).length = xs.length := length_spliceC h
theorem spl_next {o : Nat} {m : List Value} {v : Value} {xs : List Value} (hl : o + m.length < xs.length) : spl (o + m.length) [v] (spl o m xs) = spl o (m ++ [v]) xs := splice_next hl
theorem spl_len {o : Nat} {m xs : List Value} (h : o + m.length ≤ xs.length) : (spl o m xs).length = xs.length := length_spliceC h
theorem row_sl {α : Type} [Enc α] {h : Hp} {g cap : Nat} {e : TypeId} {l : List α} {spare : List Value} (hp : 0 < Enc.size α) (hb : h g = some (.cells (rowL l spare).toArray e (0, 0))) (hc : l.length ≤ cap) (hm : cap ≤ maxLen) (hok : ∀ x ∈ l, Enc.ok h x) :
    (Sl.mk (some ⟨g, 0, none⟩) cap l).Ok h := by
  refine ⟨hc, fun _ => rfl, fun i x hx => ?_, hok, hm⟩
  have hi : i < l.length := (List.getElem?_eq_some_iff.1 hx).1
  refine cellsAt_mk (Enc.len x) fun j v hj => ?_
  have hjl : j < Enc.size α := by rw [← Enc.len x]; exact (List.getElem?_eq_some_iff.1 hj).1
  have hfl : (l.flatMap Enc.enc)[i * Enc.size α + j]? = some v := by
    rw [flat_get Enc.len hp]
    have e1 : (i * Enc.size α + j) / Enc.size α = i := by rw [Nat.add_comm, Nat.add_mul_div_right _ _ hp, Nat.div_eq_of_lt hjl, Nat.zero_add]
    have e2 : (i * Enc.size α + j) % Enc.size α = j := by rw [Nat.add_comm, Nat.add_mul_mod_self_right, Nat.mod_eq_of_lt hjl]
    rw [e1, e2, hx]
    exact hj
  rw [add_add', Nat.zero_add, add_mk]
  simp only [Hp.cell, hb, Option.isSome_none, Bool.false_eq_true, if_false, Nat.zero_add, List.getElem?_toArray, rowL]
  rw [List.getElem?_append_left (by exact (List.getElem?_eq_some_iff.1 hfl).1)]
  exact hfl
/-- What an owned slice's block holds. -/
theorem own_row {α : Type} [Enc α] [Foot α] {h : Hp} {s : Sl α} (hp : 0 < Enc.size α) (hok : s.Ok h) (ho : Foot.own h s) (hl : s.l ≠ []) :
    ∃ g e spare, s.a = some ⟨g, 0, none⟩ ∧ h g = some (.cells (rowL s.l spare).toArray e (0, 0)) ∧ s.l.length * Enc.size α + spare.length = s.cap * Enc.size α := by
  obtain ⟨⟨g, cur, e, ha, hb, hsz⟩, _⟩ := ho hl
  have hall := hok.all hp
  unfold Hp.ldL at hall
  have hlen : s.l.length ≠ 0 := fun e => hl (List.length_eq_zero_iff.1 e)
  have hall : (if s.l.length = 0 then some [] else h.lds s.a (s.l.length * Enc.size α)) = some (s.l.flatMap Enc.enc) := hall
  rw [if_neg hlen, ha] at hall
  obtain ⟨h1, h2⟩ := cellsAt_spec (show h.cellsAt ⟨g, 0, none⟩ 0 _ = some _ from hall)
  have hcur : cur.toList.take (s.l.length * Enc.size α) = s.l.flatMap Enc.enc := by
    apply List.ext_getElem?
    intro j
    by_cases hj : j < s.l.length * Enc.size α
    · rw [List.getElem?_take, if_pos hj]
      have hj' : j < (s.l.flatMap Enc.enc).length := by rw [h1]; exact hj
      have := h2 j _ (List.getElem?_eq_getElem hj')
      rw [add_mk] at this
      simp only [Hp.cell, hb, Option.isSome_none, Bool.false_eq_true, if_false, Nat.zero_add] at this
      rw [List.getElem?_eq_getElem hj', ← this, Array.getElem?_toList]
    · rw [List.getElem?_take, if_neg hj, List.getElem?_eq_none (by omega)]
  have hle : s.l.length * Enc.size α ≤ s.cap * Enc.size α := Nat.mul_le_mul_right _ hok.1
  refine ⟨g, e, cur.toList.drop (s.l.length * Enc.size α), ha, ?_, ?_⟩
  · rw [hb, rowL, ← hcur, List.take_append_drop]
  · rw [List.length_drop, Array.length_toList, hsz]; omega
end Go.SL
