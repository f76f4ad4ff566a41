/- Plain theorems about the model: a symbolic state, its evaluation and its soundness. No condition; nothing of the program is named. -/
import Derived.Test.YtfbdafdbinbeaaaSL18
import Derived.Deep.Slices
import Derived.Deep.Fields
import Derived.ProofKit
set_option linter.unusedVariables false
set_option linter.unusedSimpArgs false
namespace Go.SL
open Go Go.RowKit Go.ChangeShapes Go.WideShapes Go.Deep

/-! ### what a law is handed reads as our data -/
def vw (w : World) : Hp := fun b => w.heap[b]?
theorem sees_vw (w : World) : Sees (vw w) w := fun _ _ h => h
theorem vw_cell {w : World} {a : Addr} : (vw w).cell a = w.cell? a := by
  unfold Hp.cell World.cell? vw
  rfl
theorem vw_cells {w : World} {base n : Nat} {a : Addr} {cs : List Value} (h : w.cells? base a n = some cs) : (vw w).lds (some a) n = some cs := by
  obtain ⟨_, h1, h2⟩ := World.cells?_some h
  refine cellsAt_mk h1 fun j v hj => ?_
  have hlt : j < n := by rw [← h1]; exact (List.getElem?_eq_some_iff.1 hj).1
  rw [vw_cell, Nat.zero_add, h2 j hlt, hj]

def Opens (α : Type) [Enc α] (P : Program) (t : TypeId) : Prop :=
  ∀ (H : Type) (enc : TypeId × Value → H) (w : World) (base : Nat) (spare : Nat → Bool) (held : Bool) (fuel : Nat) (cs : List Value) (x : DataW H × List MemPlace),
    DataW.trod enc P w base spare held fuel t cs = some x → ∃ a : α, cs = Enc.enc a ∧ Enc.ok (vw w) a

section
variable {P : Program} {t e : TypeId}
theorem opens_int (ht : P.underlying t = some (.int .i64)) : Opens Int P t := by
  intro H enc w base spare held fuel cs x h
  obtain ⟨n, rfl, _, wf⟩ := DataW.trod_int ht h
  refine ⟨n, rfl, ?_⟩
  simp [Lit.wf] at wf
  simp only [Enc.ok, I64]
  exact wf

theorem opens_slice {α : Type} [Enc α] (ht : P.underlying t = some (.slice e)) (hC : P.cellsOf e = Enc.size α) (He : Opens α P e) : Opens (Sl α) P t := by
  intro H enc w base spare held fuel cs x h
  rcases open_slice ht h with ⟨rfl, _⟩ | ⟨a, len, cap, m, n, D, Pl, rfl, _, hl, hm, hmm, _, hi⟩
  · exact ⟨⟨none, 0, []⟩, rfl, ⟨Nat.le_refl _, fun h => (h rfl).elim, fun i x hx => by (cases hx), fun x hx => by (cases hx), Nat.zero_le _⟩⟩
  · have hle : len ≤ m := by rw [hmm]; split <;> omega
    have hx : ∀ i : Fin len, ∃ y : α, (vw w).lds (some (a.add (i.1 * Enc.size α))) (Enc.size α) = some (Enc.enc y) ∧ Enc.ok (vw w) y := by
      intro i
      obtain ⟨cs', h1, h2⟩ := hi i.1 (Nat.lt_of_lt_of_le i.2 hle)
      obtain ⟨y, rfl, hy⟩ := He H enc w base spare held n cs' _ h2
      rw [hC] at h1
      exact ⟨y, vw_cells h1, hy⟩
    let f : Fin len → α := fun i => (hx i).choose
    have hf : ∀ i, (vw w).lds (some (a.add (i.1 * Enc.size α))) (Enc.size α) = some (Enc.enc (f i)) ∧ Enc.ok (vw w) (f i) := fun i => (hx i).choose_spec
    refine ⟨⟨some a, cap, List.ofFn f⟩, by simp [Enc.enc, Sl.val], ⟨by simpa using hl, fun _ => rfl, fun i x hx => ?_, fun x hx => ?_, hm⟩⟩
    · simp only [List.getElem?_ofFn] at hx
      split at hx
      · rename_i hlt
        simp only [Option.some.injEq] at hx
        subst hx
        exact (hf ⟨i, hlt⟩).1
      · cases hx
    · obtain ⟨i, rfl⟩ := List.mem_ofFn.1 hx
      exact (hf i).2

/-- A struct, field by field. -/
theorem opens_fields {H : Type} {enc : TypeId × Value → H} {w : World} {base : Nat} {spare : Nat → Bool} {held : Bool} {fuel : Nat} {cs : List Value} {x : DataW H × List MemPlace} {fs : Array Field} (ht : P.underlying t = some (.struct fs))
    (h : DataW.trod enc P w base spare held fuel t cs = some x) : cs.length = P.cellsOf t ∧ ∀ (i : Nat) (f : Field), fs[i]? = some f → ∃ n y, DataW.trod enc P w base spare held n f.type ((cs.drop f.offset).take (P.cellsOf f.type)) = some y := by
  obtain ⟨xs, n, _, _, h1, h2, h3⟩ := DataW.trod_struct ht h
  refine ⟨h1, fun i f hf => ?_⟩
  have hi : i < xs.length := by rw [h2]; exact (Array.getElem?_eq_some_iff.1 hf).1
  exact ⟨n, xs[i], by rw [h3 i f hf, List.getElem?_eq_getElem hi]⟩
theorem Opens.field {α : Type} [Enc α] {t' : TypeId} (Ho : Opens α P t') {H : Type} {enc : TypeId × Value → H} {w : World} {base : Nat} {spare : Nat → Bool} {held : Bool} {cs : List Value} {fs : Array Field}
    (h : ∀ (i : Nat) (f : Field), fs[i]? = some f → ∃ n y, DataW.trod enc P w base spare held n f.type ((cs.drop f.offset).take (P.cellsOf f.type)) = some y) (i off sz : Nat) (hf : ∃ f, fs[i]? = some f ∧ f.type = t' ∧ f.offset = off) (hc : P.cellsOf t' = sz) :
    ∃ a : α, (cs.drop off).take sz = Enc.enc a ∧ Enc.ok (vw w) a := by
  obtain ⟨f, h1, rfl, rfl⟩ := hf
  subst hc
  obtain ⟨n, y, h⟩ := h i f h1
  exact Ho H enc w base spare held n _ y h
end

/-- What a law leaves: one result; the handed values read as they did; nothing older than the call is touched. -/
theorem post_law {H : Type} {enc : TypeId × Value → H} {P : Program} {f : Func} {s : ChangeSpec} {apart fresh handsOn : Bool} {W W' : World} {args : Array Value} {v : Value} {ds : List (DataW H)} {before : List MemPlace}
    (hW : DataW.Whole enc P f.params.toList s.vars apart W args.toList ds [] before) (hb : Below W.heap.size W W')
    (hvs : ∀ sp, DataW.TrodVars enc P W' sp s.vars (s.fn H (ds ++ [])).vars [])
    (hres : ∀ (b : Nat) (sp : Nat → Bool) (hd : Bool), DataW.TrodAll enc P W' b sp hd f.resultTypes.toList (v.resultList f.resultTypes.size) (s.fn H (ds ++ [])).results [])
    (hargs : ∀ sp : Nat → Bool, (∀ p ∈ before, sp p.block = true) → DataW.TrodAll enc P W' 0 sp true f.params.toList args.toList (s.fn H (ds ++ [])).args before) :
    s.post enc P f apart fresh handsOn false W args v W' := by
  have hlt : ∀ p ∈ before, p.block < W.heap.size := fun p hp => hW.lt p hp
  exact ⟨ds, [], before, [], before, [], hW, hres _ _ _, hargs _ fun p hp => by simpa using hlt p hp, hvs _,
    World.keptBut_mono (fun p hp => ⟨hp, .inr (.inl hp)⟩) (hb.frame (· ∈ before)), fun h => by cases h⟩
end Go.SL
