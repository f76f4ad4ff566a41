/- Plain theorems about the model: a symbolic state, its evaluation and its soundness. No condition; nothing of the program is named. -/
import Derived.Test.YtfbdafdbinbeaaaSL19
set_option linter.unusedVariables false
set_option linter.unusedSimpArgs false
namespace Go.SL
open Go Go.RowKit

/-! ### the data of the program, by program -/
class Con (α : Type) (β : outParam Type) where
  con : α → β
instance : Con Int Int := ⟨id⟩
instance : Con Bool Bool := ⟨id⟩
instance {α β : Type} [Con α β] : Con (Sl α) (List β) := ⟨fun s => s.l.map Con.con⟩
theorem con_int {n : Int} : Con.con n = n := rfl
theorem con_bool {n : Bool} : Con.con n = n := rfl
theorem con_sl {α β : Type} [Con α β] {s : Sl α} : Con.con s = s.l.map Con.con := rfl
theorem con_ints {s : Sl Int} : Con.con s = s.l := List.map_id _
def StrOk (s : ByteArray) : Prop := s.size ≤ maxLen
instance : Con ByteArray ByteArray := ⟨id⟩
theorem con_str {n : ByteArray} : Con.con n = n := rfl
class Blk (α : Type) where
  blk : α → Nat
instance : Blk Int := ⟨fun _ => 0⟩
instance : Blk Bool := ⟨fun _ => 0⟩
instance : Blk ByteArray := ⟨fun s => s.size⟩
instance {α : Type} [Blk α] : Blk (Sl α) := ⟨fun s => s.l.length + (s.l.map Blk.blk).sum⟩
theorem blk_sl {α : Type} [Blk α] {s : Sl α} : Blk.blk s = s.l.length + (s.l.map Blk.blk).sum := rfl
theorem blk_flat {α : Type} [Blk α] (h : ∀ x : α, Blk.blk x = 0) (s : Sl α) : Blk.blk s = s.l.length := by
  have : ∀ l : List α, (l.map Blk.blk).sum = 0 := fun l => by induction l with | nil => rfl | cons x l ih => rw [List.map_cons, List.sum_cons, h, ih]
  rw [blk_sl, this, Nat.add_zero]
def szLeft (n : Int) (k : Nat) : Int := if n - k < 0 then -1 else n - k
theorem szLeft_add {n : Int} {i j : Nat} (h : 0 ≤ szLeft n i) : szLeft (szLeft n i) j = szLeft n (i + j) := by
  unfold szLeft at *
  split at h
  · omega
  · rename_i hn
    rw [if_neg hn]
    split <;> split <;> omega
theorem lo_ge {n : Int} {k : Nat} (h : decide (szLeft n k < 0) = false) : 0 ≤ szLeft n k := by simpa using h
theorem lo_le {n : Int} {k : Nat} (h : 0 ≤ n ∧ n ≤ 1048576) : szLeft n k ≤ 1048576 := by unfold szLeft; split <;> omega
theorem lo_in {n : Int} {k : Nat} (h : 0 ≤ n ∧ n ≤ 1048576) (h1 : 0 ≤ szLeft n k) : 0 ≤ szLeft n k ∧ szLeft n k ≤ 1048576 := ⟨h1, lo_le h⟩
theorem lo_fit {n : Int} {k : Nat} (h : 0 ≤ szLeft n k) : (k : Int) ≤ n := by unfold szLeft at h; split at h <;> omega
theorem lo_bad {n : Int} {k m : Nat} (h : szLeft n k < 0) (hk : k ≤ m) : Value.int .i64 (-1) = Value.int .i64 (szLeft n m) := by
  have : szLeft n m = -1 := by unfold szLeft at *; split at h <;> split <;> omega
  rw [this]
theorem lo_wrap {n : Int} {k : Nat} (hn : 0 ≤ n ∧ n ≤ 1048576) (hk : k ≤ 9223372036854775807) : IntKind.i64.wrap (n - k) = n - k := wrap64 (by omega)
theorem lo_neg {n : Int} {k : Nat} (h : decide (n - (k : Int) < 0) = true) : szLeft n k < 0 := by have := of_decide_eq_true h; unfold szLeft; rw [if_pos this]; omega
theorem lo_pos {n : Int} {k : Nat} (h : decide (n - (k : Int) < 0) = false) : n - (k : Int) = szLeft n k ∧ 0 ≤ szLeft n k := by have := of_decide_eq_false h; unfold szLeft; rw [if_neg this]; omega
theorem mem_le_sum : ∀ {l : List Nat} {x : Nat}, x ∈ l → x ≤ l.sum
  | [], _, h => by cases h
  | y :: l, x, h => by
    rw [List.sum_cons]
    rcases List.mem_cons.1 h with rfl | h
    · omega
    · have := mem_le_sum h; omega
theorem sum_take {l : List Nat} {k : Nat} (hk : k < l.length) : (l.take (k + 1)).sum = (l.take k).sum + l[k] := by rw [List.take_succ_eq_append_getElem hk, List.sum_append]; simp
theorem sum_take_le {l : List Nat} {k : Nat} : (l.take k).sum ≤ l.sum := by
  conv => rhs; rw [← List.take_append_drop k l, List.sum_append]
  exact Nat.le_add_right _ _
theorem at_Sl {α : Type} [Enc α] {h : Hp} {s : Sl (Sl α)} (H : s.Ok h) {i : Nat} (hi : i < s.l.length) : h.lds (Option.map (·.add (i * 1)) s.a) 1 = some [s.l[i].val] := H.at hi
theorem at_Int {h : Hp} {s : Sl Int} (H : s.Ok h) {i : Nat} (hi : i < s.l.length) : h.lds (Option.map (·.add (i * 1)) s.a) 1 = some [.int .i64 s.l[i]] := H.at hi

structure DCall where
  ship : Int
  src : Int
  dst : Int
  ready : Int
  due : Int
deriving DecidableEq
def DCall.cells (c : DCall) : List Value := [.int .i64 c.ship, .int .i64 c.src, .int .i64 c.dst, .int .i64 c.ready, .int .i64 c.due]
instance : Enc DCall where
  size := 5
  enc p := p.cells
  len _ := rfl
  one p u hu := by
    simp only [DCall.cells, List.mem_cons, List.not_mem_nil, or_false] at hu
    rcases hu with rfl | rfl | rfl | rfl | rfl <;> rfl
  ok h p := I64 p.ship ∧ I64 p.src ∧ I64 p.dst ∧ I64 p.ready ∧ I64 p.due
  mono hs H := by
    have K := H
    obtain ⟨h0, h1, h2, h3, h4⟩ := K
    exact ⟨h0, h1, h2, h3, h4⟩
@[go_sem] theorem ev_enc_DCall {c : DCall} : Enc.enc c = [.int .i64 c.ship, .int .i64 c.src, .int .i64 c.dst, .int .i64 c.ready, .int .i64 c.due] := rfl
instance : Con DCall DCall := ⟨id⟩
theorem con_DCall {c : DCall} : Con.con c = c := rfl
instance : Blk DCall := ⟨fun _ => 0⟩
theorem at_DCall {h : Hp} {s : Sl DCall} (H : s.Ok h) {i : Nat} (hi : i < s.l.length) : h.lds (Option.map (·.add (i * 5)) s.a) 5 = some [.int .i64 s.l[i].ship, .int .i64 s.l[i].src, .int .i64 s.l[i].dst, .int .i64 s.l[i].ready, .int .i64 s.l[i].due] := H.at hi
abbrev DCall.v (c : DCall) : Value := .agg #[.int .i64 c.ship, .int .i64 c.src, .int .i64 c.dst, .int .i64 c.ready, .int .i64 c.due]

structure DPassage where
  ship : Int
  seg : Int
  toward : Bool
  start : Int
  fin : Int
deriving DecidableEq
def DPassage.cells (c : DPassage) : List Value := [.int .i64 c.ship, .int .i64 c.seg, .bool c.toward, .int .i64 c.start, .int .i64 c.fin]
instance : Enc DPassage where
  size := 5
  enc p := p.cells
  len _ := rfl
  one p u hu := by
    simp only [DPassage.cells, List.mem_cons, List.not_mem_nil, or_false] at hu
    rcases hu with rfl | rfl | rfl | rfl | rfl <;> rfl
  ok h p := I64 p.ship ∧ I64 p.seg ∧ I64 p.start ∧ I64 p.fin
  mono hs H := by
    have K := H
    obtain ⟨h0, h1, h2, h3⟩ := K
    exact ⟨h0, h1, h2, h3⟩
@[go_sem] theorem ev_enc_DPassage {c : DPassage} : Enc.enc c = [.int .i64 c.ship, .int .i64 c.seg, .bool c.toward, .int .i64 c.start, .int .i64 c.fin] := rfl
instance : Con DPassage DPassage := ⟨id⟩
theorem con_DPassage {c : DPassage} : Con.con c = c := rfl
instance : Blk DPassage := ⟨fun _ => 0⟩
theorem at_DPassage {h : Hp} {s : Sl DPassage} (H : s.Ok h) {i : Nat} (hi : i < s.l.length) : h.lds (Option.map (·.add (i * 5)) s.a) 5 = some [.int .i64 s.l[i].ship, .int .i64 s.l[i].seg, .bool s.l[i].toward, .int .i64 s.l[i].start, .int .i64 s.l[i].fin] := H.at hi
abbrev DPassage.v (c : DPassage) : Value := .agg #[.int .i64 c.ship, .int .i64 c.seg, .bool c.toward, .int .i64 c.start, .int .i64 c.fin]

structure DOption where
  start : Int
  arr : Int
  cost : Int
  pas : Sl DPassage
def DOption.cells (c : DOption) : List Value := [.int .i64 c.start, .int .i64 c.arr, .int .i64 c.cost, c.pas.val]
instance : Enc DOption where
  size := 4
  enc p := p.cells
  len _ := rfl
  one p u hu := by
    simp only [DOption.cells, List.mem_cons, List.not_mem_nil, or_false] at hu
    rcases hu with rfl | rfl | rfl | rfl <;> rfl
  ok h p := I64 p.start ∧ I64 p.arr ∧ I64 p.cost ∧ p.pas.Ok h
  mono hs H := by
    have K := H
    obtain ⟨h0, h1, h2, h3⟩ := K
    exact ⟨h0, h1, h2, h3.mono hs⟩
@[go_sem] theorem ev_enc_DOption {c : DOption} : Enc.enc c = [.int .i64 c.start, .int .i64 c.arr, .int .i64 c.cost, c.pas.val] := rfl
structure POption where
  start : Int
  arr : Int
  cost : Int
  pas : List DPassage
deriving DecidableEq
instance : Con DOption POption := ⟨fun c => ⟨Con.con c.start, Con.con c.arr, Con.con c.cost, Con.con c.pas⟩⟩
theorem con_DOption {c : DOption} : Con.con c = POption.mk (Con.con c.start) (Con.con c.arr) (Con.con c.cost) (Con.con c.pas) := rfl
instance : Blk DOption := ⟨fun c => Blk.blk c.pas⟩
theorem blk_DOption {c : DOption} : Blk.blk c = Blk.blk c.pas := rfl
theorem at_DOption {h : Hp} {s : Sl DOption} (H : s.Ok h) {i : Nat} (hi : i < s.l.length) : h.lds (Option.map (·.add (i * 4)) s.a) 4 = some [.int .i64 s.l[i].start, .int .i64 s.l[i].arr, .int .i64 s.l[i].cost, s.l[i].pas.val] := H.at hi
abbrev DOption.v (c : DOption) : Value := .agg #[.int .i64 c.start, .int .i64 c.arr, .int .i64 c.cost, c.pas.val]

structure DCrew where
  tugs : Int
  pilots : Int
  rest : Int
  moves : Sl Int
def DCrew.cells (c : DCrew) : List Value := [.int .i64 c.tugs, .int .i64 c.pilots, .int .i64 c.rest, c.moves.val]
instance : Enc DCrew where
  size := 4
  enc p := p.cells
  len _ := rfl
  one p u hu := by
    simp only [DCrew.cells, List.mem_cons, List.not_mem_nil, or_false] at hu
    rcases hu with rfl | rfl | rfl | rfl <;> rfl
  ok h p := I64 p.tugs ∧ I64 p.pilots ∧ I64 p.rest ∧ p.moves.Ok h
  mono hs H := by
    have K := H
    obtain ⟨h0, h1, h2, h3⟩ := K
    exact ⟨h0, h1, h2, h3.mono hs⟩
@[go_sem] theorem ev_enc_DCrew {c : DCrew} : Enc.enc c = [.int .i64 c.tugs, .int .i64 c.pilots, .int .i64 c.rest, c.moves.val] := rfl
structure PCrew where
  tugs : Int
  pilots : Int
  rest : Int
  moves : List Int
deriving DecidableEq
instance : Con DCrew PCrew := ⟨fun c => ⟨Con.con c.tugs, Con.con c.pilots, Con.con c.rest, Con.con c.moves⟩⟩
theorem con_DCrew {c : DCrew} : Con.con c = PCrew.mk (Con.con c.tugs) (Con.con c.pilots) (Con.con c.rest) (Con.con c.moves) := rfl
instance : Blk DCrew := ⟨fun c => Blk.blk c.moves⟩
theorem blk_DCrew {c : DCrew} : Blk.blk c = Blk.blk c.moves := rfl
theorem at_DCrew {h : Hp} {s : Sl DCrew} (H : s.Ok h) {i : Nat} (hi : i < s.l.length) : h.lds (Option.map (·.add (i * 4)) s.a) 4 = some [.int .i64 s.l[i].tugs, .int .i64 s.l[i].pilots, .int .i64 s.l[i].rest, s.l[i].moves.val] := H.at hi
abbrev DCrew.v (c : DCrew) : Value := .agg #[.int .i64 c.tugs, .int .i64 c.pilots, .int .i64 c.rest, c.moves.val]

structure DPart where
  amp : Int
  period : Int
  phase : Int
deriving DecidableEq
def DPart.cells (c : DPart) : List Value := [.int .i64 c.amp, .int .i64 c.period, .int .i64 c.phase]
instance : Enc DPart where
  size := 3
  enc p := p.cells
  len _ := rfl
  one p u hu := by
    simp only [DPart.cells, List.mem_cons, List.not_mem_nil, or_false] at hu
    rcases hu with rfl | rfl | rfl <;> rfl
  ok h p := I64 p.amp ∧ I64 p.period ∧ I64 p.phase
  mono hs H := by
    have K := H
    obtain ⟨h0, h1, h2⟩ := K
    exact ⟨h0, h1, h2⟩
@[go_sem] theorem ev_enc_DPart {c : DPart} : Enc.enc c = [.int .i64 c.amp, .int .i64 c.period, .int .i64 c.phase] := rfl
instance : Con DPart DPart := ⟨id⟩
theorem con_DPart {c : DPart} : Con.con c = c := rfl
instance : Blk DPart := ⟨fun _ => 0⟩
theorem at_DPart {h : Hp} {s : Sl DPart} (H : s.Ok h) {i : Nat} (hi : i < s.l.length) : h.lds (Option.map (·.add (i * 3)) s.a) 3 = some [.int .i64 s.l[i].amp, .int .i64 s.l[i].period, .int .i64 s.l[i].phase] := H.at hi
abbrev DPart.v (c : DPart) : Value := .agg #[.int .i64 c.amp, .int .i64 c.period, .int .i64 c.phase]

structure DTide where
  mean : Int
  parts : Sl DPart
def DTide.cells (c : DTide) : List Value := [.int .i64 c.mean, c.parts.val]
instance : Enc DTide where
  size := 2
  enc p := p.cells
  len _ := rfl
  one p u hu := by
    simp only [DTide.cells, List.mem_cons, List.not_mem_nil, or_false] at hu
    rcases hu with rfl | rfl <;> rfl
  ok h p := I64 p.mean ∧ p.parts.Ok h
  mono hs H := by
    have K := H
    obtain ⟨h0, h1⟩ := K
    exact ⟨h0, h1.mono hs⟩
@[go_sem] theorem ev_enc_DTide {c : DTide} : Enc.enc c = [.int .i64 c.mean, c.parts.val] := rfl
structure PTide where
  mean : Int
  parts : List DPart
deriving DecidableEq
instance : Con DTide PTide := ⟨fun c => ⟨Con.con c.mean, Con.con c.parts⟩⟩
theorem con_DTide {c : DTide} : Con.con c = PTide.mk (Con.con c.mean) (Con.con c.parts) := rfl
instance : Blk DTide := ⟨fun c => Blk.blk c.parts⟩
theorem blk_DTide {c : DTide} : Blk.blk c = Blk.blk c.parts := rfl
theorem at_DTide {h : Hp} {s : Sl DTide} (H : s.Ok h) {i : Nat} (hi : i < s.l.length) : h.lds (Option.map (·.add (i * 2)) s.a) 2 = some [.int .i64 s.l[i].mean, s.l[i].parts.val] := H.at hi
abbrev DTide.v (c : DTide) : Value := .agg #[.int .i64 c.mean, c.parts.val]

structure DSurge where
  src : Int
  low : Int
  high : Int
deriving DecidableEq
def DSurge.cells (c : DSurge) : List Value := [.int .i64 c.src, .int .i64 c.low, .int .i64 c.high]
instance : Enc DSurge where
  size := 3
  enc p := p.cells
  len _ := rfl
  one p u hu := by
    simp only [DSurge.cells, List.mem_cons, List.not_mem_nil, or_false] at hu
    rcases hu with rfl | rfl | rfl <;> rfl
  ok h p := I64 p.src ∧ I64 p.low ∧ I64 p.high
  mono hs H := by
    have K := H
    obtain ⟨h0, h1, h2⟩ := K
    exact ⟨h0, h1, h2⟩
@[go_sem] theorem ev_enc_DSurge {c : DSurge} : Enc.enc c = [.int .i64 c.src, .int .i64 c.low, .int .i64 c.high] := rfl
instance : Con DSurge DSurge := ⟨id⟩
theorem con_DSurge {c : DSurge} : Con.con c = c := rfl
instance : Blk DSurge := ⟨fun _ => 0⟩
theorem at_DSurge {h : Hp} {s : Sl DSurge} (H : s.Ok h) {i : Nat} (hi : i < s.l.length) : h.lds (Option.map (·.add (i * 3)) s.a) 3 = some [.int .i64 s.l[i].src, .int .i64 s.l[i].low, .int .i64 s.l[i].high] := H.at hi
abbrev DSurge.v (c : DSurge) : Value := .agg #[.int .i64 c.src, .int .i64 c.low, .int .i64 c.high]

structure DForecast where
  tide : DTide
  surges : Sl DSurge
def DForecast.cells (c : DForecast) : List Value := [.int .i64 c.tide.mean, c.tide.parts.val, c.surges.val]
instance : Enc DForecast where
  size := 3
  enc p := p.cells
  len _ := rfl
  one p u hu := by
    simp only [DForecast.cells, List.mem_cons, List.not_mem_nil, or_false] at hu
    rcases hu with rfl | rfl | rfl <;> rfl
  ok h p := Enc.ok h p.tide ∧ p.surges.Ok h
  mono hs H := by
    have K := H
    obtain ⟨h0, h1⟩ := K
    exact ⟨Enc.mono hs h0, h1.mono hs⟩
@[go_sem] theorem ev_enc_DForecast {c : DForecast} : Enc.enc c = [.int .i64 c.tide.mean, c.tide.parts.val, c.surges.val] := rfl
structure PForecast where
  tide : PTide
  surges : List DSurge
deriving DecidableEq
instance : Con DForecast PForecast := ⟨fun c => ⟨Con.con c.tide, Con.con c.surges⟩⟩
theorem con_DForecast {c : DForecast} : Con.con c = PForecast.mk (Con.con c.tide) (Con.con c.surges) := rfl
instance : Blk DForecast := ⟨fun c => Blk.blk c.tide + Blk.blk c.surges⟩
theorem blk_DForecast {c : DForecast} : Blk.blk c = Blk.blk c.tide + Blk.blk c.surges := rfl
theorem at_DForecast {h : Hp} {s : Sl DForecast} (H : s.Ok h) {i : Nat} (hi : i < s.l.length) : h.lds (Option.map (·.add (i * 3)) s.a) 3 = some [.int .i64 s.l[i].tide.mean, s.l[i].tide.parts.val, s.l[i].surges.val] := H.at hi
abbrev DForecast.v (c : DForecast) : Value := .agg #[.int .i64 c.tide.mean, c.tide.parts.val, c.surges.val]

structure DPoint where
  name : ByteArray
  wait : Bool
deriving DecidableEq
def DPoint.cells (c : DPoint) : List Value := [.string c.name, .bool c.wait]
instance : Enc DPoint where
  size := 2
  enc p := p.cells
  len _ := rfl
  one p u hu := by
    simp only [DPoint.cells, List.mem_cons, List.not_mem_nil, or_false] at hu
    rcases hu with rfl | rfl <;> rfl
  ok h p := StrOk p.name
  mono hs H := by
    have K := H
    have h0 := K
    exact h0
@[go_sem] theorem ev_enc_DPoint {c : DPoint} : Enc.enc c = [.string c.name, .bool c.wait] := rfl
instance : Con DPoint DPoint := ⟨id⟩
theorem con_DPoint {c : DPoint} : Con.con c = c := rfl
instance : Blk DPoint := ⟨fun c => Blk.blk c.name⟩
theorem blk_DPoint {c : DPoint} : Blk.blk c = Blk.blk c.name := rfl
theorem at_DPoint {h : Hp} {s : Sl DPoint} (H : s.Ok h) {i : Nat} (hi : i < s.l.length) : h.lds (Option.map (·.add (i * 2)) s.a) 2 = some [.string s.l[i].name, .bool s.l[i].wait] := H.at hi
abbrev DPoint.v (c : DPoint) : Value := .agg #[.string c.name, .bool c.wait]

structure DSegment where
  a : Int
  b : Int
  depth : Int
  minutes : Int
  meet : Bool
deriving DecidableEq
def DSegment.cells (c : DSegment) : List Value := [.int .i64 c.a, .int .i64 c.b, .int .i64 c.depth, .int .i64 c.minutes, .bool c.meet]
instance : Enc DSegment where
  size := 5
  enc p := p.cells
  len _ := rfl
  one p u hu := by
    simp only [DSegment.cells, List.mem_cons, List.not_mem_nil, or_false] at hu
    rcases hu with rfl | rfl | rfl | rfl | rfl <;> rfl
  ok h p := I64 p.a ∧ I64 p.b ∧ I64 p.depth ∧ I64 p.minutes
  mono hs H := by
    have K := H
    obtain ⟨h0, h1, h2, h3⟩ := K
    exact ⟨h0, h1, h2, h3⟩
@[go_sem] theorem ev_enc_DSegment {c : DSegment} : Enc.enc c = [.int .i64 c.a, .int .i64 c.b, .int .i64 c.depth, .int .i64 c.minutes, .bool c.meet] := rfl
instance : Con DSegment DSegment := ⟨id⟩
theorem con_DSegment {c : DSegment} : Con.con c = c := rfl
instance : Blk DSegment := ⟨fun _ => 0⟩
theorem at_DSegment {h : Hp} {s : Sl DSegment} (H : s.Ok h) {i : Nat} (hi : i < s.l.length) : h.lds (Option.map (·.add (i * 5)) s.a) 5 = some [.int .i64 s.l[i].a, .int .i64 s.l[i].b, .int .i64 s.l[i].depth, .int .i64 s.l[i].minutes, .bool s.l[i].meet] := H.at hi
abbrev DSegment.v (c : DSegment) : Value := .agg #[.int .i64 c.a, .int .i64 c.b, .int .i64 c.depth, .int .i64 c.minutes, .bool c.meet]

structure DChart where
  points : Sl DPoint
  segments : Sl DSegment
def DChart.cells (c : DChart) : List Value := [c.points.val, c.segments.val]
instance : Enc DChart where
  size := 2
  enc p := p.cells
  len _ := rfl
  one p u hu := by
    simp only [DChart.cells, List.mem_cons, List.not_mem_nil, or_false] at hu
    rcases hu with rfl | rfl <;> rfl
  ok h p := p.points.Ok h ∧ p.segments.Ok h
  mono hs H := by
    have K := H
    obtain ⟨h0, h1⟩ := K
    exact ⟨h0.mono hs, h1.mono hs⟩
@[go_sem] theorem ev_enc_DChart {c : DChart} : Enc.enc c = [c.points.val, c.segments.val] := rfl
structure PChart where
  points : List DPoint
  segments : List DSegment
deriving DecidableEq
instance : Con DChart PChart := ⟨fun c => ⟨Con.con c.points, Con.con c.segments⟩⟩
theorem con_DChart {c : DChart} : Con.con c = PChart.mk (Con.con c.points) (Con.con c.segments) := rfl
instance : Blk DChart := ⟨fun c => Blk.blk c.points + Blk.blk c.segments⟩
theorem blk_DChart {c : DChart} : Blk.blk c = Blk.blk c.points + Blk.blk c.segments := rfl
theorem at_DChart {h : Hp} {s : Sl DChart} (H : s.Ok h) {i : Nat} (hi : i < s.l.length) : h.lds (Option.map (·.add (i * 2)) s.a) 2 = some [s.l[i].points.val, s.l[i].segments.val] := H.at hi
abbrev DChart.v (c : DChart) : Value := .agg #[c.points.val, c.segments.val]

structure DShip where
  name : ByteArray
  length : Int
  draught : Int
  line : Int
  tugs : Int
  slow : Bool
deriving DecidableEq
def DShip.cells (c : DShip) : List Value := [.string c.name, .int .i64 c.length, .int .i64 c.draught, .int .i64 c.line, .int .i64 c.tugs, .bool c.slow]
instance : Enc DShip where
  size := 6
  enc p := p.cells
  len _ := rfl
  one p u hu := by
    simp only [DShip.cells, List.mem_cons, List.not_mem_nil, or_false] at hu
    rcases hu with rfl | rfl | rfl | rfl | rfl | rfl <;> rfl
  ok h p := StrOk p.name ∧ I64 p.length ∧ I64 p.draught ∧ I64 p.line ∧ I64 p.tugs
  mono hs H := by
    have K := H
    obtain ⟨h0, h1, h2, h3, h4⟩ := K
    exact ⟨h0, h1, h2, h3, h4⟩
@[go_sem] theorem ev_enc_DShip {c : DShip} : Enc.enc c = [.string c.name, .int .i64 c.length, .int .i64 c.draught, .int .i64 c.line, .int .i64 c.tugs, .bool c.slow] := rfl
instance : Con DShip DShip := ⟨id⟩
theorem con_DShip {c : DShip} : Con.con c = c := rfl
instance : Blk DShip := ⟨fun c => Blk.blk c.name⟩
theorem blk_DShip {c : DShip} : Blk.blk c = Blk.blk c.name := rfl
theorem at_DShip {h : Hp} {s : Sl DShip} (H : s.Ok h) {i : Nat} (hi : i < s.l.length) : h.lds (Option.map (·.add (i * 6)) s.a) 6 = some [.string s.l[i].name, .int .i64 s.l[i].length, .int .i64 s.l[i].draught, .int .i64 s.l[i].line, .int .i64 s.l[i].tugs, .bool s.l[i].slow] := H.at hi
abbrev DShip.v (c : DShip) : Value := .agg #[.string c.name, .int .i64 c.length, .int .i64 c.draught, .int .i64 c.line, .int .i64 c.tugs, .bool c.slow]

structure DRegime where
  gap : Int
  noMeet : Bool
deriving DecidableEq
def DRegime.cells (c : DRegime) : List Value := [.int .i64 c.gap, .bool c.noMeet]
instance : Enc DRegime where
  size := 2
  enc p := p.cells
  len _ := rfl
  one p u hu := by
    simp only [DRegime.cells, List.mem_cons, List.not_mem_nil, or_false] at hu
    rcases hu with rfl | rfl <;> rfl
  ok h p := I64 p.gap
  mono hs H := by
    have K := H
    have h0 := K
    exact h0
@[go_sem] theorem ev_enc_DRegime {c : DRegime} : Enc.enc c = [.int .i64 c.gap, .bool c.noMeet] := rfl
instance : Con DRegime DRegime := ⟨id⟩
theorem con_DRegime {c : DRegime} : Con.con c = c := rfl
instance : Blk DRegime := ⟨fun _ => 0⟩
theorem at_DRegime {h : Hp} {s : Sl DRegime} (H : s.Ok h) {i : Nat} (hi : i < s.l.length) : h.lds (Option.map (·.add (i * 2)) s.a) 2 = some [.int .i64 s.l[i].gap, .bool s.l[i].noMeet] := H.at hi
abbrev DRegime.v (c : DRegime) : Value := .agg #[.int .i64 c.gap, .bool c.noMeet]

structure DHarbour where
  forecast : DForecast
  chart : DChart
  fleet : Sl DShip
  regime : DRegime
  crew : DCrew
def DHarbour.cells (c : DHarbour) : List Value := [.int .i64 c.forecast.tide.mean, c.forecast.tide.parts.val, c.forecast.surges.val, c.chart.points.val, c.chart.segments.val, c.fleet.val, .int .i64 c.regime.gap, .bool c.regime.noMeet, .int .i64 c.crew.tugs, .int .i64 c.crew.pilots, .int .i64 c.crew.rest, c.crew.moves.val]
instance : Enc DHarbour where
  size := 12
  enc p := p.cells
  len _ := rfl
  one p u hu := by
    simp only [DHarbour.cells, List.mem_cons, List.not_mem_nil, or_false] at hu
    rcases hu with rfl | rfl | rfl | rfl | rfl | rfl | rfl | rfl | rfl | rfl | rfl | rfl <;> rfl
  ok h p := Enc.ok h p.forecast ∧ Enc.ok h p.chart ∧ p.fleet.Ok h ∧ Enc.ok h p.regime ∧ Enc.ok h p.crew
  mono hs H := by
    have K := H
    obtain ⟨h0, h1, h2, h3, h4⟩ := K
    exact ⟨Enc.mono hs h0, Enc.mono hs h1, h2.mono hs, Enc.mono hs h3, Enc.mono hs h4⟩
@[go_sem] theorem ev_enc_DHarbour {c : DHarbour} : Enc.enc c = [.int .i64 c.forecast.tide.mean, c.forecast.tide.parts.val, c.forecast.surges.val, c.chart.points.val, c.chart.segments.val, c.fleet.val, .int .i64 c.regime.gap, .bool c.regime.noMeet, .int .i64 c.crew.tugs, .int .i64 c.crew.pilots, .int .i64 c.crew.rest, c.crew.moves.val] := rfl
structure PHarbour where
  forecast : PForecast
  chart : PChart
  fleet : List DShip
  regime : DRegime
  crew : PCrew
deriving DecidableEq
instance : Con DHarbour PHarbour := ⟨fun c => ⟨Con.con c.forecast, Con.con c.chart, Con.con c.fleet, Con.con c.regime, Con.con c.crew⟩⟩
theorem con_DHarbour {c : DHarbour} : Con.con c = PHarbour.mk (Con.con c.forecast) (Con.con c.chart) (Con.con c.fleet) (Con.con c.regime) (Con.con c.crew) := rfl
instance : Blk DHarbour := ⟨fun c => Blk.blk c.forecast + Blk.blk c.chart + Blk.blk c.fleet + Blk.blk c.crew⟩
theorem blk_DHarbour {c : DHarbour} : Blk.blk c = Blk.blk c.forecast + Blk.blk c.chart + Blk.blk c.fleet + Blk.blk c.crew := rfl
theorem at_DHarbour {h : Hp} {s : Sl DHarbour} (H : s.Ok h) {i : Nat} (hi : i < s.l.length) : h.lds (Option.map (·.add (i * 12)) s.a) 12 = some [.int .i64 s.l[i].forecast.tide.mean, s.l[i].forecast.tide.parts.val, s.l[i].forecast.surges.val, s.l[i].chart.points.val, s.l[i].chart.segments.val, s.l[i].fleet.val, .int .i64 s.l[i].regime.gap, .bool s.l[i].regime.noMeet, .int .i64 s.l[i].crew.tugs, .int .i64 s.l[i].crew.pilots, .int .i64 s.l[i].crew.rest, s.l[i].crew.moves.val] := H.at hi
abbrev DHarbour.v (c : DHarbour) : Value := .agg #[.int .i64 c.forecast.tide.mean, c.forecast.tide.parts.val, c.forecast.surges.val, c.chart.points.val, c.chart.segments.val, c.fleet.val, .int .i64 c.regime.gap, .bool c.regime.noMeet, .int .i64 c.crew.tugs, .int .i64 c.crew.pilots, .int .i64 c.crew.rest, c.crew.moves.val]

structure DBranch where
  low : Int
  high : Int
  plan : Sl DOption
def DBranch.cells (c : DBranch) : List Value := [.int .i64 c.low, .int .i64 c.high, c.plan.val]
instance : Enc DBranch where
  size := 3
  enc p := p.cells
  len _ := rfl
  one p u hu := by
    simp only [DBranch.cells, List.mem_cons, List.not_mem_nil, or_false] at hu
    rcases hu with rfl | rfl | rfl <;> rfl
  ok h p := I64 p.low ∧ I64 p.high ∧ p.plan.Ok h
  mono hs H := by
    have K := H
    obtain ⟨h0, h1, h2⟩ := K
    exact ⟨h0, h1, h2.mono hs⟩
@[go_sem] theorem ev_enc_DBranch {c : DBranch} : Enc.enc c = [.int .i64 c.low, .int .i64 c.high, c.plan.val] := rfl
structure PBranch where
  low : Int
  high : Int
  plan : List POption
deriving DecidableEq
instance : Con DBranch PBranch := ⟨fun c => ⟨Con.con c.low, Con.con c.high, Con.con c.plan⟩⟩
theorem con_DBranch {c : DBranch} : Con.con c = PBranch.mk (Con.con c.low) (Con.con c.high) (Con.con c.plan) := rfl
instance : Blk DBranch := ⟨fun c => Blk.blk c.plan⟩
theorem blk_DBranch {c : DBranch} : Blk.blk c = Blk.blk c.plan := rfl
theorem at_DBranch {h : Hp} {s : Sl DBranch} (H : s.Ok h) {i : Nat} (hi : i < s.l.length) : h.lds (Option.map (·.add (i * 3)) s.a) 3 = some [.int .i64 s.l[i].low, .int .i64 s.l[i].high, s.l[i].plan.val] := H.at hi
abbrev DBranch.v (c : DBranch) : Value := .agg #[.int .i64 c.low, .int .i64 c.high, c.plan.val]

structure DStrategy where
  minute : Int
  branches : Sl DBranch
def DStrategy.cells (c : DStrategy) : List Value := [.int .i64 c.minute, c.branches.val]
instance : Enc DStrategy where
  size := 2
  enc p := p.cells
  len _ := rfl
  one p u hu := by
    simp only [DStrategy.cells, List.mem_cons, List.not_mem_nil, or_false] at hu
    rcases hu with rfl | rfl <;> rfl
  ok h p := I64 p.minute ∧ p.branches.Ok h
  mono hs H := by
    have K := H
    obtain ⟨h0, h1⟩ := K
    exact ⟨h0, h1.mono hs⟩
@[go_sem] theorem ev_enc_DStrategy {c : DStrategy} : Enc.enc c = [.int .i64 c.minute, c.branches.val] := rfl
structure PStrategy where
  minute : Int
  branches : List PBranch
deriving DecidableEq
instance : Con DStrategy PStrategy := ⟨fun c => ⟨Con.con c.minute, Con.con c.branches⟩⟩
theorem con_DStrategy {c : DStrategy} : Con.con c = PStrategy.mk (Con.con c.minute) (Con.con c.branches) := rfl
instance : Blk DStrategy := ⟨fun c => Blk.blk c.branches⟩
theorem blk_DStrategy {c : DStrategy} : Blk.blk c = Blk.blk c.branches := rfl
theorem at_DStrategy {h : Hp} {s : Sl DStrategy} (H : s.Ok h) {i : Nat} (hi : i < s.l.length) : h.lds (Option.map (·.add (i * 2)) s.a) 2 = some [.int .i64 s.l[i].minute, s.l[i].branches.val] := H.at hi
abbrev DStrategy.v (c : DStrategy) : Value := .agg #[.int .i64 c.minute, c.branches.val]

structure DWindow where
  src : Int
  dst : Int
deriving DecidableEq
def DWindow.cells (c : DWindow) : List Value := [.int .i64 c.src, .int .i64 c.dst]
instance : Enc DWindow where
  size := 2
  enc p := p.cells
  len _ := rfl
  one p u hu := by
    simp only [DWindow.cells, List.mem_cons, List.not_mem_nil, or_false] at hu
    rcases hu with rfl | rfl <;> rfl
  ok h p := I64 p.src ∧ I64 p.dst
  mono hs H := by
    have K := H
    obtain ⟨h0, h1⟩ := K
    exact ⟨h0, h1⟩
@[go_sem] theorem ev_enc_DWindow {c : DWindow} : Enc.enc c = [.int .i64 c.src, .int .i64 c.dst] := rfl
instance : Con DWindow DWindow := ⟨id⟩
theorem con_DWindow {c : DWindow} : Con.con c = c := rfl
instance : Blk DWindow := ⟨fun _ => 0⟩
theorem at_DWindow {h : Hp} {s : Sl DWindow} (H : s.Ok h) {i : Nat} (hi : i < s.l.length) : h.lds (Option.map (·.add (i * 2)) s.a) 2 = some [.int .i64 s.l[i].src, .int .i64 s.l[i].dst] := H.at hi
abbrev DWindow.v (c : DWindow) : Value := .agg #[.int .i64 c.src, .int .i64 c.dst]

structure DDuty where
  src : Int
  dst : Int
  a : Int
  b : Int
deriving DecidableEq
def DDuty.cells (c : DDuty) : List Value := [.int .i64 c.src, .int .i64 c.dst, .int .i64 c.a, .int .i64 c.b]
instance : Enc DDuty where
  size := 4
  enc p := p.cells
  len _ := rfl
  one p u hu := by
    simp only [DDuty.cells, List.mem_cons, List.not_mem_nil, or_false] at hu
    rcases hu with rfl | rfl | rfl | rfl <;> rfl
  ok h p := I64 p.src ∧ I64 p.dst ∧ I64 p.a ∧ I64 p.b
  mono hs H := by
    have K := H
    obtain ⟨h0, h1, h2, h3⟩ := K
    exact ⟨h0, h1, h2, h3⟩
@[go_sem] theorem ev_enc_DDuty {c : DDuty} : Enc.enc c = [.int .i64 c.src, .int .i64 c.dst, .int .i64 c.a, .int .i64 c.b] := rfl
instance : Con DDuty DDuty := ⟨id⟩
theorem con_DDuty {c : DDuty} : Con.con c = c := rfl
instance : Blk DDuty := ⟨fun _ => 0⟩
theorem at_DDuty {h : Hp} {s : Sl DDuty} (H : s.Ok h) {i : Nat} (hi : i < s.l.length) : h.lds (Option.map (·.add (i * 4)) s.a) 4 = some [.int .i64 s.l[i].src, .int .i64 s.l[i].dst, .int .i64 s.l[i].a, .int .i64 s.l[i].b] := H.at hi
abbrev DDuty.v (c : DDuty) : Value := .agg #[.int .i64 c.src, .int .i64 c.dst, .int .i64 c.a, .int .i64 c.b]
end Go.SL
