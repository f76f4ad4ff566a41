/- Plain theorems about the model: a symbolic state, its evaluation and its soundness. No condition; nothing of the program is named. -/
import Derived.Test.YtfbdafdbinbeaaaSL6
set_option linter.unusedVariables false
set_option linter.unusedSimpArgs false
namespace Go.SL
open Go Go.RowKit

def upd (ρ : Rho) (n : Nat) (v : Value) : Rho := fun r => if r = n then v else ρ r
theorem upd_same (ρ : Rho) (n : Nat) (v : Value) : upd ρ n v n = v := by simp [upd]
theorem upd_lt (ρ : Rho) (n : Nat) (v : Value) : ∀ r, r < n → ρ r = upd ρ n v r := by
  intro r hr
  simp only [upd]
  rw [if_neg (by omega)]

def atV (v : Value) (g : Nat) : Prop := v = .pointer (some ⟨g, 0, none⟩) ∨ ∃ n c, v = .slice (some ⟨g, 0, none⟩) n c
theorem at_iff {ρ : Rho} {r g : Nat} : PB.at ρ r g ↔ atV (ρ r) g := Iff.rfl
theorem atV_inj {v : Value} {g g' : Nat} (h : atV v g) (h' : atV v g') : g = g' := by
  rcases h with rfl | ⟨n, c, rfl⟩ <;> rcases h' with h' | ⟨n', c', h'⟩ <;> simp_all

theorem PB.ok_congr {n base r : Nat} {ρ ρ' : Rho} {W : World} {b : PB} (hρ : ∀ r, r < n → ρ r = ρ' r) (hr : r < n) (hb : b.lt n = true) (h : b.ok base ρ r W) : b.ok base ρ' r W := by
  cases b with
  | box ty cs =>
    obtain ⟨g, h1, h2, h3⟩ := h
    refine ⟨g, by rw [← hρ r hr]; exact h1, h2, ?_⟩
    simp only [PB.lt, List.all_eq_true] at hb
    rw [h3]
    have : cs.map (·.conc ρ) = cs.map (·.conc ρ') := List.map_congr_left fun c hc => SC.conc_congr hρ (hb c hc)
    rw [this]
  | row e sz m xs =>
    have h : W.ownsRow base e sz (ρ r) m xs := h
    rw [hρ r hr] at h
    exact h

theorem PB.ok_lt {base r g : Nat} {ρ : Rho} {W : World} {b : PB} (h : b.ok base ρ r W) (ha : PB.at ρ r g) : base ≤ g ∧ g < W.heap.size := by
  cases b with
  | box ty cs =>
    obtain ⟨g', h1, h2, h3⟩ := h
    have : g = g' := atV_inj ha (.inl h1)
    subst this
    exact ⟨h2, (Array.getElem?_eq_some_iff.1 h3).1⟩
  | row e sz m xs =>
    have h : W.ownsRow base e sz (ρ r) m xs := h
    rcases ha with ha | ⟨n, c, ha⟩
    · rcases h.2 with ⟨h1, _⟩ | ⟨g', cap, cur, h1, _⟩ <;> rw [h1] at ha <;> cases ha
    · exact h.lt g (by rw [ha]; rfl)

/-- A private block that is there before is there behind a step that leaves its block alone. -/
theorem PB.ok_keep {base r : Nat} {ρ : Rho} {W W' : World} {b : PB} (h : b.ok base ρ r W) (hk : ∀ g, PB.at ρ r g → W'.heap[g]? = W.heap[g]?) : b.ok base ρ r W' := by
  cases b with
  | box ty cs =>
    obtain ⟨g', h1, h2, h3⟩ := h
    exact ⟨g', h1, h2, (hk g' (.inl h1)).trans h3⟩
  | row e sz m xs =>
    have h : W.ownsRow base e sz (ρ r) m xs := h
    refine ⟨h.1, ?_⟩
    rcases h.2 with h2 | ⟨g, cap, cur, h1, h2, h3, h4⟩
    · exact .inl h2
    · exact .inr ⟨g, cap, cur, h1, h2, (hk g (.inr ⟨_, _, h1⟩)).trans h3, h4⟩

section
variable {P : Program} {W0 : Base} {h0 : Hp} {N nx : Nat} {ρ : Rho} {p p2 : List (Nat × PB)} {h : Hp} {W W' : World} {e : Env} {a : Act}

theorem FOk.congr {ρ' : Rho} (hf : FOk N ρ e a) (he : envLt nx e = true) (hρ : ∀ r, r < nx → ρ r = ρ' r) : FOk N ρ' e a := by
  refine ⟨hf.1, hf.2.1, fun t c sv hl => ?_⟩
  rw [hf.2.2 t c sv hl, SV.conc_congr hρ (look_lt he hl)]

theorem FOk.put {d : Nat} {c : Bool} {sv : SV} {v : Value} (hf : FOk N ρ e a) (hd : d < N) (hv : v = if c = true then sv.conc ρ else undef) : FOk N ρ ((d, c, sv) :: e) (a.put (some d) v) := by
  refine ⟨hf.1, by simp [Act.put, hf.2.1], fun t c' sv' hl => ?_⟩
  simp only [look] at hl
  split at hl
  · rename_i hdt
    subst hdt
    simp only [Option.some.injEq, Prod.mk.injEq] at hl
    obtain ⟨rfl, rfl⟩ := hl
    simp [Act.put, hf.2.1, hd, hv]
  · rename_i hdt
    rw [← hf.2.2 t c' sv' hl]
    simp only [Act.put]
    rw [Array.getElem?_setIfInBounds_ne hdt]

theorem WOk.add (hW : WOk W0 h0 ρ p h W) (hl : pbLt nx p = true) (hsub : ∀ r b, look r p2 = some b → look r p = some b) {v : Value} {b : PB}
    (hb : BelowO W0 W') (hs : Sees h W') (hw : ∀ g, atV v g → W0.own g) (hk : ∀ r b, look r p2 = some b → b.ok 0 ρ r W')
    (ho : b.ok 0 (upd ρ nx v) nx W') (ha : ∀ g, atV v g → h g = none) (hd : ∀ r b' g, look r p2 = some b' → PB.at ρ r g → ¬ atV v g) :
    WOk W0 h0 (upd ρ nx v) ((nx, b) :: p2) h W' := by
  have hlt : ∀ r b', look r p2 = some b' → r < nx ∧ b'.lt nx = true := fun r b' hr => lookP_lt hl (hsub r b' hr)
  have ne : ∀ r b', look r p2 = some b' → upd ρ nx v r = ρ r := fun r b' hr => (upd_lt ρ nx v r (hlt r b' hr).1).symm
  have cases_ : ∀ r b', look r ((nx, b) :: p2) = some b' → (r = nx ∧ b' = b) ∨ (nx ≠ r ∧ look r p2 = some b') := by
    intro r b' hr
    simp only [look] at hr
    split at hr
    · rename_i hn; exact .inl ⟨hn.symm, by simpa using hr.symm⟩
    · rename_i hn; exact .inr ⟨hn, hr⟩
  refine ⟨hb, hs, hW.ext, hW.new, fun r b' g hr hat => ?_, fun r b' hr => ?_, fun r b' g hr hat => ?_, fun r b1 r' b2 g hr hr' hat hat' => ?_⟩
  · rcases cases_ r b' hr with ⟨rfl, rfl⟩ | ⟨hn, hr⟩
    · exact hw g (by rw [at_iff, upd_same] at hat; exact hat)
    · rw [at_iff, ne r b' hr] at hat
      exact hW.own r b' g (hsub r b' hr) hat
  · rcases cases_ r b' hr with ⟨rfl, rfl⟩ | ⟨hn, hr⟩
    · exact ho
    · exact PB.ok_congr (upd_lt ρ nx v) (hlt r b' hr).1 (hlt r b' hr).2 (hk r b' hr)
  · rcases cases_ r b' hr with ⟨rfl, rfl⟩ | ⟨hn, hr⟩
    · exact ha g (by rw [at_iff, upd_same] at hat; exact hat)
    · rw [at_iff, ne r b' hr] at hat
      exact hW.apart r b' g (hsub r b' hr) hat
  · rcases cases_ r b1 hr with ⟨q1, q2⟩ | ⟨hn, kr⟩ <;> rcases cases_ r' b2 hr' with ⟨q3, q4⟩ | ⟨hn', kr'⟩
    · rw [q1, q3]
    · rw [q1, at_iff, upd_same] at hat
      rw [at_iff, ne r' b2 kr'] at hat'
      exact (hd r' b2 g kr' hat' hat).elim
    · rw [q3, at_iff, upd_same] at hat'
      rw [at_iff, ne r b1 kr] at hat
      exact (hd r b1 g kr hat hat').elim
    · rw [at_iff, ne r b1 kr] at hat
      rw [at_iff, ne r' b2 kr'] at hat'
      exact hW.distinct r b1 r' b2 g (hsub r b1 kr) (hsub r' b2 kr') hat hat'

theorem sees_none_lt (hs : Sees h W) {g : Nat} (hg : W.heap.size ≤ g) : h g = none := by
  cases hh : h g with
  | none => rfl
  | some o =>
    have := hs g o hh
    rw [Array.getElem?_eq_none hg] at this
    cases this

theorem sees_keep (hs : Sees h W) (hk : ∀ g, h g ≠ none → W'.heap[g]? = W.heap[g]?) : Sees h W' := fun b o hb => by
  rw [hk b (by rw [hb]; simp)]
  exact hs b o hb

/-- A new private block of its own. -/
theorem WOk.new_ (hW : WOk W0 h0 ρ p h W) (hl : pbLt nx p = true) {v : Value} {b : PB} (hb : Below W.heap.size W W') (hv : ∀ g, atV v g → g = W.heap.size)
    (ho : b.ok 0 (upd ρ nx v) nx W') : WOk W0 h0 (upd ρ nx v) ((nx, b) :: p) h W' := by
  refine hW.add hl (fun _ _ x => x) (hW.below.trans (hb.mono hW.below.size)) (sees_keep hW.sees fun g hg => ?_) (fun g hg => by rw [hv g hg]; exact W0.big _ hW.below.size) (fun r b' hr => ?_) ho (fun g hg => ?_) (fun r b' g hr hat hv' => ?_)
  · have : g < W.heap.size := by
      rcases Nat.lt_or_ge g W.heap.size with hlt | hge
      · exact hlt
      · exact (hg (sees_none_lt hW.sees hge)).elim
    exact hb.block g this
  · exact PB.ok_keep (hW.priv r b' hr) fun g hg => hb.block g (PB.ok_lt (hW.priv r b' hr) hg).2
  · rw [hv g hg]; exact sees_none_lt hW.sees (Nat.le_refl _)
  · have := (PB.ok_lt (hW.priv r b' hr) hat).2
    rw [hv g hv'] at this
    omega

/-- The world moves on, nothing of ours is touched; more may be seen. -/
theorem WOk.grow {h' : Hp} (hW : WOk W0 h0 ρ p h W) (hb : Below W.heap.size W W') (hle : h.le h') (hs : Sees h' W') (hn : ∀ b o, h' b = some o → h b = none → W.heap.size ≤ b) :
    WOk W0 h0 ρ p h' W' := by
  refine ⟨hW.below.trans (hb.mono hW.below.size), hs, fun b o h1 h2 => hle b o (hW.ext b o h1 h2), fun b o hb' h0b => ?_, hW.own, fun r b' hr => ?_, fun r b' g hr hat => ?_, hW.distinct⟩
  · cases hh : h b with
    | some o' => exact hW.new b o' hh h0b
    | none => exact W0.big b (Nat.le_trans hW.below.size (hn b o hb' hh))
  · exact PB.ok_keep (hW.priv r b' hr) fun g hg => hb.block g (PB.ok_lt (hW.priv r b' hr) hg).2
  · cases hh : h' g with
    | none => rfl
    | some o =>
      have h1 := hn g o hh (hW.apart r b' g hr hat)
      have h2 := (PB.ok_lt (hW.priv r b' hr) hat).2
      omega

/-- Some private blocks are forgotten. -/
theorem WOk.drop (hW : WOk W0 h0 ρ p h W) (hsub : ∀ r b, look r p2 = some b → look r p = some b) : WOk W0 h0 ρ p2 h W :=
  ⟨hW.below, hW.sees, hW.ext, hW.new, fun r b g hr => hW.own r b g (hsub r b hr), fun r b hr => hW.priv r b (hsub r b hr), fun r b g hr => hW.apart r b g (hsub r b hr), fun r b r' b' g hr hr' => hW.distinct r b r' b' g (hsub r b hr) (hsub r' b' hr')⟩

theorem below_alloc (W : World) (o : Obj) : Below W.heap.size W (W.alloc o) := (Below.refl _ _).alloc (Nat.le_refl _) o

def setP (r : Nat) (b : PB) : List (Nat × PB) → List (Nat × PB)
  | [] => []
  | (k, x) :: l => if k = r then (k, b) :: l else (k, x) :: setP r b l
theorem look_setP {r r' : Nat} {b b0 : PB} : ∀ {p : List (Nat × PB)}, look r p = some b0 → look r' (setP r b p) = if r' = r then some b else look r' p
  | [], h => by cases h
  | (k, x) :: l, h => by
    simp only [look] at h
    by_cases hk : k = r
    · subst hk
      simp only [setP, if_true, look]
      by_cases hr : k = r'
      · subst hr; simp
      · rw [if_neg hr, if_neg (Ne.symm hr), if_neg hr]
    · rw [if_neg hk] at h
      simp only [setP, if_neg hk, look]
      by_cases hr : k = r'
      · subst hr; rw [if_pos rfl, if_neg hk, if_pos rfl]
      · rw [if_neg hr, if_neg hr, look_setP h]
theorem pbLt_setP {r n : Nat} {b : PB} (hb : b.lt n = true) : ∀ {p : List (Nat × PB)}, pbLt n p = true → pbLt n (setP r b p) = true
  | [], _ => rfl
  | (k, x) :: l, h => by
    simp only [pbLt, Bool.and_eq_true] at h
    by_cases hk : k = r
    · simp [setP, hk, pbLt, hb, h.2]; simpa [hk] using h.1.1
    · simp only [setP, if_neg hk, pbLt, Bool.and_eq_true]
      exact ⟨h.1, pbLt_setP hb h.2⟩
def dropP (r : Nat) : List (Nat × PB) → List (Nat × PB)
  | [] => []
  | (k, x) :: l => if k = r then dropP r l else (k, x) :: dropP r l
theorem look_dropP {r r' : Nat} {b : PB} : ∀ {p : List (Nat × PB)}, look r' (dropP r p) = some b → look r' p = some b ∧ r' ≠ r
  | [], h => by cases h
  | (k, x) :: l, h => by
    by_cases hk : k = r
    · simp only [dropP, hk, if_true] at h
      have := look_dropP h
      refine ⟨?_, this.2⟩
      simp only [look, hk]
      rw [if_neg (Ne.symm this.2)]
      exact this.1
    · simp only [dropP, hk, if_false, look] at h ⊢
      split at h
      · rename_i hkr; subst hkr; rw [if_pos rfl]; exact ⟨h, hk⟩
      · rename_i hkr; rw [if_neg hkr]; exact look_dropP h
theorem pbLt_dropP {r n : Nat} : ∀ {p : List (Nat × PB)}, pbLt n p = true → pbLt n (dropP r p) = true
  | [], _ => rfl
  | (k, x) :: l, h => by
    simp only [pbLt, Bool.and_eq_true] at h
    by_cases hk : k = r
    · simp only [dropP, hk, if_true]; exact pbLt_dropP h.2
    · simp only [dropP, hk, if_false, pbLt, Bool.and_eq_true]; exact ⟨h.1, pbLt_dropP h.2⟩

/-- A store into a private block. -/
theorem WOk.set_ (hW : WOk W0 h0 ρ p h W) {r g : Nat} {b0 b : PB} (hr : look r p = some b0) (hat : PB.at ρ r g) (cs : Array Value)
    (ho : b.ok 0 ρ r (W.setRow g cs)) : WOk W0 h0 ρ (setP r b p) h (W.setRow g cs) := by
  have hg := PB.ok_lt (hW.priv r b0 hr) hat
  have hn := hW.apart r b0 g hr hat
  have other : ∀ k, k ≠ g → (W.setRow g cs).heap[k]? = W.heap[k]? := fun k hk => setRow_other W g k cs hk
  refine ⟨hW.below.step rfl rfl rfl (by simp [World.setRow]) fun k hk _ => other k (fun e => hk (by rw [e]; exact hW.own r b0 g hr hat)), sees_keep hW.sees fun k hk => other k (fun e => hk (by rw [e]; exact hn)), hW.ext, hW.new, fun r' b' g' hr' hat' => ?_, fun r' b' hr' => ?_, fun r' b' g' hr' hat' => ?_, fun r1 b1 r2 b2 g' h1 h2 a1 a2 => ?_⟩
  · rw [look_setP hr] at hr'
    split at hr'
    · rename_i e; subst e; exact hW.own r' b0 g' hr hat'
    · exact hW.own r' b' g' hr' hat'
  · rw [look_setP hr] at hr'
    split at hr'
    · rename_i e; subst e; simp only [Option.some.injEq] at hr'; subst hr'; exact ho
    · rename_i e
      refine PB.ok_keep (hW.priv r' b' hr') fun g' hg' => other g' (fun ee => ?_)
      subst ee
      exact e (hW.distinct r' b' r b0 g' hr' hr hg' hat)
  · rw [look_setP hr] at hr'
    split at hr'
    · rename_i e; subst e; exact hW.apart r' b0 g' hr hat'
    · exact hW.apart r' b' g' hr' hat'
  · have l1 : ∃ b, look r1 p = some b := by
      rw [look_setP hr] at h1
      split at h1
      · rename_i e; subst e; exact ⟨_, hr⟩
      · exact ⟨_, h1⟩
    have l2 : ∃ b, look r2 p = some b := by
      rw [look_setP hr] at h2
      split at h2
      · rename_i e; subst e; exact ⟨_, hr⟩
      · exact ⟨_, h2⟩
    obtain ⟨b1', l1⟩ := l1
    obtain ⟨b2', l2⟩ := l2
    exact hW.distinct r1 b1' r2 b2' g' l1 l2 a1 a2
end
end Go.SL
