/- Plain theorems about the model: a symbolic state, its evaluation and its soundness. No condition; nothing of the program is named. -/
import Derived.Test.YtfbdafdbinbeaaaSL13
set_option linter.unusedVariables false
set_option linter.unusedSimpArgs false
namespace Go.SL
open Go Go.RowKit

/-- A slice with what it holds. -/
structure Sl (α : Type) where
  a : Option Addr
  cap : Nat
  l : List α

class Enc (α : Type) where
  size : Nat
  enc : α → List Value
  len : ∀ x, (enc x).length = size
  one : ∀ x, ∀ u ∈ enc x, u.oneCell' = true
  ok : Hp → α → Prop
  mono : ∀ {h h' : Hp} {x : α}, h.le h' → ok h x → ok h' x

def Sl.val {α : Type} (s : Sl α) : Value := .slice s.a s.l.length s.cap
def Sl.Ok {α : Type} [Enc α] (h : Hp) (s : Sl α) : Prop :=
  s.l.length ≤ s.cap ∧ (s.l ≠ [] → s.a.isSome = true) ∧ (∀ i x, s.l[i]? = some x → h.lds (s.a.map (·.add (i * Enc.size α))) (Enc.size α) = some (Enc.enc x)) ∧ (∀ x ∈ s.l, Enc.ok h x) ∧ s.cap ≤ maxLen

theorem Sl.Ok.mono {α : Type} [Enc α] {h h' : Hp} {s : Sl α} (hs : h.le h') (H : s.Ok h) : s.Ok h' :=
  ⟨H.1, H.2.1, fun i x hx => lds_mono hs (H.2.2.1 i x hx), fun x hx => Enc.mono hs (H.2.2.2.1 x hx), H.2.2.2.2⟩

instance {α : Type} [Enc α] : Enc (Sl α) where
  size := 1
  enc s := [s.val]
  len _ := rfl
  one s u hu := by simp only [List.mem_singleton] at hu; subst hu; rfl
  ok h s := s.Ok h
  mono hs H := H.mono hs

def I64 (n : Int) : Prop := -9223372036854775808 ≤ n ∧ n ≤ 9223372036854775807
instance : Enc Int where
  size := 1
  enc n := [.int .i64 n]
  len _ := rfl
  one n u hu := by simp only [List.mem_singleton] at hu; subst hu; rfl
  ok _ n := I64 n
  mono _ H := H

section
variable {α : Type} [Enc α] {h : Hp} {s : Sl α}
theorem Sl.Ok.at (H : s.Ok h) {i : Nat} (hi : i < s.l.length) : h.lds (s.a.map (·.add (i * Enc.size α))) (Enc.size α) = some (Enc.enc s.l[i]) := H.2.2.1 i _ (List.getElem?_eq_getElem hi)
theorem Sl.Ok.some (H : s.Ok h) {i : Nat} (hi : i < s.l.length) : s.a.isSome = true := H.2.1 (by intro e; rw [e] at hi; simp at hi)
theorem Sl.Ok.el (H : s.Ok h) {i : Nat} (hi : i < s.l.length) : Enc.ok h s.l[i] := H.2.2.2.1 _ (List.getElem_mem hi)
theorem Sl.Ok.max (H : s.Ok h) : s.l.length ≤ 9223372036854775807 := Nat.le_trans H.1 (by have := H.2.2.2.2; simpa [maxLen] using this)

theorem flat_get {α : Type} {f : α → List Value} {k : Nat} (hk : ∀ x, (f x).length = k) (hp : 0 < k) : ∀ (l : List α) (j : Nat), (l.flatMap f)[j]? = (l[j / k]?).bind fun x => (f x)[j % k]?
  | [], j => by simp
  | x :: l, j => by
    rw [List.flatMap_cons, List.getElem?_append, hk x]
    by_cases hj : j < k
    · rw [if_pos hj, Nat.div_eq_of_lt hj, Nat.mod_eq_of_lt hj]; rfl
    · rw [if_neg hj, flat_get hk hp l (j - k)]
      have e1 : j / k = (j - k) / k + 1 := by rw [← Nat.add_sub_cancel' (Nat.le_of_not_lt hj), Nat.add_sub_cancel_left, Nat.add_div_left _ hp]
      have e2 : j % k = (j - k) % k := by
        conv => lhs; rw [← Nat.add_sub_cancel' (Nat.le_of_not_lt hj)]
        rw [Nat.add_mod_left]
      rw [e1, e2]
      rfl
theorem flat_length {α : Type} {f : α → List Value} {k : Nat} (hk : ∀ x, (f x).length = k) (l : List α) : (l.flatMap f).length = l.length * k := by
  induction l with
  | nil => simp
  | cons x l ih => rw [List.flatMap_cons, List.length_append, hk, ih, List.length_cons, Nat.add_mul, Nat.one_mul, Nat.add_comm]

theorem add_add' (a : Addr) (i j : Nat) : (a.add i).add j = a.add (i + j) := by
  unfold Addr.add
  by_cases hi : i = 0 <;> by_cases hj : j = 0 <;> simp [hi, hj, Nat.add_assoc]

/-- The whole of it. -/
theorem Sl.Ok.all (H : s.Ok h) (hp : 0 < Enc.size α) : h.ldL s.val (Enc.size α) = Option.some (s.l.flatMap Enc.enc) := by
  unfold Hp.ldL
  show (if s.l.length = 0 then _ else h.lds s.a (s.l.length * Enc.size α)) = _
  split
  · rename_i h0
    rw [List.length_eq_zero_iff] at h0
    rw [h0]; rfl
  · rename_i h0
    have hne : s.l ≠ [] := by intro e; rw [e] at h0; simp at h0
    obtain ⟨ad, had⟩ := Option.isSome_iff_exists.1 (H.2.1 hne)
    rw [had]
    refine cellsAt_mk (flat_length Enc.len s.l) fun j v hj => ?_
    rw [flat_get Enc.len hp] at hj
    obtain ⟨x, hx, hv⟩ := Option.bind_eq_some_iff.1 hj
    have h1 := H.2.2.1 _ x hx
    rw [had] at h1
    have h2 := (cellsAt_spec (show h.cellsAt (ad.add (j / Enc.size α * Enc.size α)) 0 _ = Option.some (Enc.enc x) from h1)).2 _ v hv
    rw [add_add', Nat.zero_add] at h2
    rwa [Nat.zero_add, ← Nat.div_add_mod' j (Enc.size α)]
end

theorem ev_sval {α : Type} {s : Sl α} : s.val = .slice s.a s.l.length s.cap := rfl
theorem ev_ofs {α : Type} {s : Sl α} : SV.of s.val = .c (.v s.val) := rfl
theorem ev_sA {α : Type} {s : Sl α} : Value.A s.val = s.a := rfl
theorem ev_sL {α : Type} {s : Sl α} : Value.L s.val = s.l.length := rfl
theorem ev_sC {α : Type} {s : Sl α} : Value.C s.val = s.cap := rfl
theorem ev_siA {α : Type} {s : Sl α} : Value.isA s.val = True := rfl
theorem ev_cellsV {α : Type} {s : Sl α} : SV.cells (.c (.v s.val)) = [.v s.val] := rfl
theorem ev_oneV {α : Type} {s : Sl α} : s.val.oneCell' = true := rfl
attribute [go_sem] ev_ofs ev_sA ev_sL ev_sC ev_siA ev_cellsV ev_oneV
theorem ev_enc_int {n : Int} : Enc.enc n = [.int .i64 n] := rfl
theorem ev_enc_sl {α : Type} [Enc α] {s : Sl α} : Enc.enc s = [s.val] := rfl
attribute [go_sem] ev_enc_int ev_enc_sl Int.toNat_natCast Option.isSome_map

/-! ### the data of the program -/
structure Pass where
  ship : Int
  seg : Int
  toward : Bool
  start : Int
  fin : Int
def Pass.enc (p : Pass) : List Value := [.int .i64 p.ship, .int .i64 p.seg, .bool p.toward, .int .i64 p.start, .int .i64 p.fin]
instance : Enc Pass where
  size := 5
  enc p := p.enc
  len _ := rfl
  one p u hu := by simp only [Pass.enc, List.mem_cons, List.not_mem_nil, or_false] at hu; rcases hu with rfl | rfl | rfl | rfl | rfl <;> rfl
  ok _ p := I64 p.ship ∧ I64 p.seg ∧ I64 p.start ∧ I64 p.fin
  mono _ H := H
structure Opt where
  start : Int
  arr : Int
  cost : Int
  pas : Sl Pass
def Opt.enc (p : Opt) : List Value := [.int .i64 p.start, .int .i64 p.arr, .int .i64 p.cost, p.pas.val]
instance : Enc Opt where
  size := 4
  enc p := p.enc
  len _ := rfl
  one p u hu := by simp only [Opt.enc, List.mem_cons, List.not_mem_nil, or_false] at hu; rcases hu with rfl | rfl | rfl | rfl <;> rfl
  ok h p := I64 p.start ∧ I64 p.arr ∧ I64 p.cost ∧ p.pas.Ok h
  mono hs H := ⟨H.1, H.2.1, H.2.2.1, H.2.2.2.mono hs⟩
theorem ev_enc_pass {p : Pass} : Enc.enc p = [.int .i64 p.ship, .int .i64 p.seg, .bool p.toward, .int .i64 p.start, .int .i64 p.fin] := rfl
theorem ev_enc_opt {p : Opt} : Enc.enc p = [.int .i64 p.start, .int .i64 p.arr, .int .i64 p.cost, p.pas.val] := rfl
attribute [go_sem] ev_enc_pass ev_enc_opt
end Go.SL
