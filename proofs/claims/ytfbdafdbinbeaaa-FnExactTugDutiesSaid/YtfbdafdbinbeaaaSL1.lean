/- Plain theorems about the model: a symbolic state, its evaluation and its soundness. No condition; nothing of the program is named. -/
import Derived.WalkKit
import Derived.Deep.Quiet
import Derived.Maps.AppendAt
set_option linter.unusedVariables false
set_option linter.unusedSimpArgs false
namespace Go.SL
open Go Go.RowKit

/-! ### heap views -/
abbrev Hp := Nat → Option Obj
def Hp.le (h h' : Hp) : Prop := ∀ b o, h b = some o → h' b = some o
def Sees (h : Hp) (W : World) : Prop := ∀ b o, h b = some o → W.heap[b]? = some o
theorem Hp.le_refl (h : Hp) : h.le h := fun _ _ x => x
theorem Hp.le_trans {a b c : Hp} (h : a.le b) (k : b.le c) : a.le c := fun x o y => k x o (h x o y)

def Hp.cell (h : Hp) (a : Addr) : Option Value :=
  match h a.block with
  | some (.cells c _ _) => if a.spot.isSome then none else c[a.off]?
  | _ => none
theorem cell_of_sees {h : Hp} {W : World} {a : Addr} {v : Value} (hs : Sees h W) (hc : h.cell a = some v) : W.cell? a = some v := by
  unfold Hp.cell at hc
  split at hc
  · rename_i c _ _ hb
    simp only [World.cell?, hs _ _ hb]
    exact hc
  · cases hc
theorem cell_mono {h h' : Hp} {a : Addr} {v : Value} (hs : h.le h') (hc : h.cell a = some v) : h'.cell a = some v := by
  unfold Hp.cell at hc ⊢
  split at hc
  · rename_i c _ _ hb
    simp only [hs _ _ hb]
    exact hc
  · cases hc

/-- n cells from a on. -/
def Hp.cellsAt (h : Hp) (a : Addr) : Nat → Nat → Option (List Value)
  | _, 0 => some []
  | i, n + 1 => match h.cell (a.add i), h.cellsAt a (i + 1) n with
    | some v, some l => some (v :: l)
    | _, _ => none
def Hp.lds (h : Hp) (q : Option Addr) (n : Nat) : Option (List Value) :=
  match q with
  | some a => h.cellsAt a 0 n
  | none => none
def Hp.ldD (h : Hp) (q : Option Addr) (n : Nat) : List Value := (h.lds q n).getD []

theorem cellsAt_spec {h : Hp} {a : Addr} : ∀ {n i : Nat} {l : List Value}, h.cellsAt a i n = some l → l.length = n ∧ ∀ j v, l[j]? = some v → h.cell (a.add (i + j)) = some v
  | 0, i, l, e => by simp only [Hp.cellsAt, Option.some.injEq] at e; subst e; simp
  | n + 1, i, l, e => by
    simp only [Hp.cellsAt] at e
    split at e
    · rename_i v l' hv hl
      simp only [Option.some.injEq] at e
      subst e
      obtain ⟨h1, h2⟩ := cellsAt_spec hl
      refine ⟨by simp [h1], fun j u hu => ?_⟩
      cases j with
      | zero => simp at hu; subst hu; simpa using hv
      | succ j => simp at hu; have := h2 j u hu; rwa [show i + (j + 1) = i + 1 + j by omega]
    · cases e
theorem cellsAt_mk {h : Hp} {a : Addr} : ∀ {n i : Nat} {l : List Value}, l.length = n → (∀ j v, l[j]? = some v → h.cell (a.add (i + j)) = some v) → h.cellsAt a i n = some l
  | 0, i, l, e, _ => by rw [List.length_eq_zero_iff] at e; subst e; rfl
  | n + 1, i, [], e, _ => by cases e
  | n + 1, i, v :: l, e, hc => by
    have h0 := hc 0 v rfl
    have h1 := cellsAt_mk (h := h) (a := a) (n := n) (i := i + 1) (l := l) (by simpa using e) (fun j u hu => by have := hc (j + 1) u (by simpa using hu); rwa [show i + 1 + j = i + (j + 1) by omega])
    simp only [Nat.add_zero] at h0
    simp [Hp.cellsAt, h0, h1]
theorem cellsAt_mono {h h' : Hp} (hs : h.le h') {a : Addr} {n i : Nat} {l : List Value} (e : h.cellsAt a i n = some l) : h'.cellsAt a i n = some l :=
  let ⟨h1, h2⟩ := cellsAt_spec e
  cellsAt_mk h1 fun j v hv => cell_mono hs (h2 j v hv)
theorem lds_mono {h h' : Hp} (hs : h.le h') {q : Option Addr} {n : Nat} {l : List Value} (e : h.lds q n = some l) : h'.lds q n = some l := by
  cases q with
  | none => cases e
  | some a => exact cellsAt_mono hs e
theorem ldD_of {h : Hp} {q : Option Addr} {n : Nat} {l : List Value} (e : h.lds q n = some l) : h.ldD q n = l := by simp [Hp.ldD, e]

theorem run_loadCells_view {P : Program} {h : Hp} {W : World} (hs : Sees h W) {a : Addr} {n : Nat} {l : List Value} (e : h.lds (some a) n = some l) :
    (loadCells a n).run P W = .ok l.toArray W := by
  obtain ⟨h1, h2⟩ := cellsAt_spec e
  subst h1
  exact run_loadCells_list (P := P) W a l fun j v hv => cell_of_sees hs (by simpa using h2 j v hv)
theorem run_load_view {P : Program} {h : Hp} {W : World} (hs : Sees h W) {a : Addr} {l : List Value} (e : h.lds (some a) 1 = some l) :
    (load a).run P W = .ok (l.getD 0 undef) W := by
  obtain ⟨h1, h2⟩ := cellsAt_spec e
  match l, h1 with
  | [v], _ =>
    have := cell_of_sees hs (h2 0 v rfl)
    simp only [Nat.add_zero, Addr.add, if_true] at this
    simp [load, Sem.run, this]

/-! ### types -/
def szT (P : Program) (t : TypeId) : Nat := P.cellsOf t
def aggT (P : Program) (t : TypeId) : Bool := match P.underlying t with | some (.struct _) | some (.array ..) => true | _ => false

/-! ### symbolic values -/
inductive SC where
  | v (x : Value)
  | p (r o : Nat)
  | s (r : Nat)
inductive SV where
  | c (x : SC)
  | g (cs : List SC)

def blk : Value → Nat
  | .pointer (some a) => a.block
  | .slice (some a) _ _ => a.block
  | _ => 0
abbrev Rho := Nat → Value
def SC.conc (ρ : Rho) : SC → Value
  | .v x => x
  | .p r o => .pointer (some ⟨blk (ρ r), o, none⟩)
  | .s r => ρ r
def SV.conc (ρ : Rho) : SV → Value
  | .c x => x.conc ρ
  | .g cs => .agg (cs.map (·.conc ρ)).toArray

@[simp] theorem conc_v (ρ : Rho) (x : Value) : (SC.v x).conc ρ = x := rfl
@[simp] theorem conc_p (ρ : Rho) (r o : Nat) : (SC.p r o).conc ρ = .pointer (some ⟨blk (ρ r), o, none⟩) := rfl
@[simp] theorem conc_s (ρ : Rho) (r : Nat) : (SC.s r).conc ρ = ρ r := rfl
@[simp] theorem conc_c (ρ : Rho) (x : SC) : (SV.c x).conc ρ = x.conc ρ := rfl
@[simp] theorem conc_g (ρ : Rho) (cs : List SC) : (SV.g cs).conc ρ = .agg (cs.map (·.conc ρ)).toArray := rfl
def SV.of : Value → SV
  | .agg cs => .g (cs.toList.map .v)
  | v => .c (.v v)
theorem SV.conc_of (ρ : Rho) (v : Value) : (SV.of v).conc ρ = v := by
  unfold SV.of
  split
  · simp [SV.conc, SC.conc, List.map_map, Function.comp_def]
  · rfl

inductive PB where
  | box (ty : TypeId) (cs : List SC)
  | row (e : TypeId) (sz n : Nat) (xs : List Value)

def look {α : Type} (t : Nat) : List (Nat × α) → Option α
  | [] => none
  | (k, x) :: l => if k = t then some x else look t l

abbrev Env := List (Nat × Bool × SV)
structure St where
  e : Env
  p : List (Nat × PB)
  h : Hp
  nx : Nat

def SC.lt (n : Nat) : SC → Bool
  | .v _ => true
  | .p r _ => r < n
  | .s r => r < n
def SV.lt (n : Nat) : SV → Bool
  | .c x => x.lt n
  | .g cs => cs.all (·.lt n)
def PB.lt (n : Nat) : PB → Bool
  | .box _ cs => cs.all (·.lt n)
  | .row .. => true
def envLt (n : Nat) : Env → Bool
  | [] => true
  | (_, _, sv) :: l => sv.lt n && envLt n l
def pbLt (n : Nat) : List (Nat × PB) → Bool
  | [] => true
  | (r, b) :: l => decide (r < n) && b.lt n && pbLt n l
def St.wf (st : St) : Bool := envLt st.nx st.e && pbLt st.nx st.p

theorem SC.conc_congr {n : Nat} {ρ ρ' : Rho} (hρ : ∀ r, r < n → ρ r = ρ' r) {x : SC} (hx : x.lt n = true) : x.conc ρ = x.conc ρ' := by
  cases x with
  | v x => rfl
  | p r o => simp only [SC.lt, decide_eq_true_eq] at hx; simp [SC.conc, hρ r hx]
  | s r => simp only [SC.lt, decide_eq_true_eq] at hx; simp [SC.conc, hρ r hx]
theorem SV.conc_congr {n : Nat} {ρ ρ' : Rho} (hρ : ∀ r, r < n → ρ r = ρ' r) {x : SV} (hx : x.lt n = true) : x.conc ρ = x.conc ρ' := by
  cases x with
  | c x => exact SC.conc_congr hρ hx
  | g cs =>
    simp only [SV.lt, List.all_eq_true] at hx
    simp only [SV.conc]
    congr 2
    exact List.map_congr_left fun y hy => SC.conc_congr hρ (hx y hy)
theorem look_lt {n t : Nat} : ∀ {e : Env} {c : Bool} {sv : SV}, envLt n e = true → look t e = some (c, sv) → sv.lt n = true
  | [], _, _, _, h => by cases h
  | (k, c', sv') :: l, c, sv, hw, h => by
    simp only [envLt, Bool.and_eq_true] at hw
    simp only [look] at h
    split at h
    · simp only [Option.some.injEq, Prod.mk.injEq] at h; rw [← h.2]; exact hw.1
    · exact look_lt hw.2 h
theorem lookP_lt {n t : Nat} : ∀ {p : List (Nat × PB)} {b : PB}, pbLt n p = true → look t p = some b → t < n ∧ b.lt n = true
  | [], _, _, h => by cases h
  | (k, b') :: l, b, hw, h => by
    simp only [pbLt, Bool.and_eq_true, decide_eq_true_eq] at hw
    simp only [look] at h
    split at h
    · rename_i hk; simp only [Option.some.injEq] at h; rw [← h, ← hk]; exact ⟨hw.1.1, hw.1.2⟩
    · exact lookP_lt hw.2 h
theorem envLt_mono {n m : Nat} (hnm : n ≤ m) : ∀ {e : Env}, envLt n e = true → envLt m e = true
  | [], _ => rfl
  | (_, _, sv) :: l, h => by
    simp only [envLt, Bool.and_eq_true] at h ⊢
    refine ⟨?_, envLt_mono hnm h.2⟩
    have h1 := h.1
    have one : ∀ x : SC, x.lt n = true → x.lt m = true := fun x hx => by cases x <;> simp_all [SC.lt] <;> omega
    cases sv with
    | c x => exact one x h1
    | g cs => simp only [SV.lt, List.all_eq_true] at h1 ⊢; exact fun x hx => one x (h1 x hx)
theorem pbLt_mono {n m : Nat} (hnm : n ≤ m) : ∀ {p : List (Nat × PB)}, pbLt n p = true → pbLt m p = true
  | [], _ => rfl
  | (r, b) :: l, h => by
    simp only [pbLt, Bool.and_eq_true, decide_eq_true_eq] at h ⊢
    refine ⟨⟨by omega, ?_⟩, pbLt_mono hnm h.2⟩
    have h1 := h.1.2
    have one : ∀ x : SC, x.lt n = true → x.lt m = true := fun x hx => by cases x <;> simp_all [SC.lt] <;> omega
    cases b with
    | box ty cs => simp only [PB.lt, List.all_eq_true] at h1 ⊢; exact fun x hx => one x (h1 x hx)
    | row => rfl

/-! ### what a symbolic state says of a frame and a world -/
def PB.ok (base : Nat) (ρ : Rho) (r : Nat) (W : World) : PB → Prop
  | .box ty cs => ∃ g, ρ r = .pointer (some ⟨g, 0, none⟩) ∧ base ≤ g ∧ W.heap[g]? = some (.cells (cs.map (·.conc ρ)).toArray ty (0, 0))
  | .row e sz n xs => W.ownsRow base e sz (ρ r) n xs

/-- Does the private block occupy block g? -/
def PB.at (ρ : Rho) (r : Nat) (g : Nat) : Prop := ρ r = .pointer (some ⟨g, 0, none⟩) ∨ ∃ n c, ρ r = .slice (some ⟨g, 0, none⟩) n c

/-- Where a call began, and the blocks that it may write. -/
structure Base where
  w : World
  own : Nat → Prop
  big : ∀ g, w.heap.size ≤ g → own g
structure BelowO (B : Base) (W : World) : Prop where
  os : W.os = B.w.os
  tape : W.tape = B.w.tape
  output : W.output = B.w.output
  size : B.w.heap.size ≤ W.heap.size
  block : ∀ k, ¬ B.own k → W.heap[k]? = B.w.heap[k]?
theorem BelowO.trans {B : Base} {W W' : World} (h : BelowO B W) (k : Below B.w.heap.size W W') : BelowO B W' :=
  ⟨k.os.trans h.os, k.tape.trans h.tape, k.output.trans h.output, Nat.le_trans h.size k.size, fun i hi => (k.block i (by
    rcases Nat.lt_or_ge i B.w.heap.size with hh | hh
    · exact hh
    · exact (hi (B.big i hh)).elim)).trans (h.block i hi)⟩
theorem BelowO.step {B : Base} {W W' : World} (h : BelowO B W) (o : W'.os = W.os) (t : W'.tape = W.tape) (u : W'.output = W.output) (s : W.heap.size ≤ W'.heap.size) (k : ∀ i, ¬ B.own i → i < W.heap.size → W'.heap[i]? = W.heap[i]?) : BelowO B W' :=
  ⟨o.trans h.os, t.trans h.tape, u.trans h.output, Nat.le_trans h.size s, fun i hi => (k i hi (by
    rcases Nat.lt_or_ge i W.heap.size with hh | hh
    · exact hh
    · exact (hi (B.big i (Nat.le_trans h.size hh))).elim)).trans (h.block i hi)⟩

structure WOk (W0 : Base) (h0 : Hp) (ρ : Rho) (p : List (Nat × PB)) (h : Hp) (W : World) : Prop where
  below : BelowO W0 W
  sees : Sees h W
  ext : ∀ b o, h0 b = some o → ¬ W0.own b → h b = some o
  new : ∀ b o, h b = some o → h0 b = none → W0.own b
  own : ∀ r b g, look r p = some b → PB.at ρ r g → W0.own g
  priv : ∀ r b, look r p = some b → b.ok 0 ρ r W
  apart : ∀ r b g, look r p = some b → PB.at ρ r g → h g = none
  distinct : ∀ r b r' b' g, look r p = some b → look r' p = some b' → PB.at ρ r g → PB.at ρ r' g → r = r'

def FOk (N : Nat) (ρ : Rho) (e : Env) (a : Act) : Prop :=
  a.defers = [] ∧ a.tmps.size = N ∧ ∀ t c sv, look t e = some (c, sv) → a.tmps[t]? = some (if c = true then sv.conc ρ else undef)

def Conc (W0 : Base) (h0 : Hp) (N : Nat) (st : St) (a : Act) (W : World) : Prop :=
  ∃ ρ, FOk N ρ st.e a ∧ WOk W0 h0 ρ st.p st.h W ∧ st.wf = true

end Go.SL
