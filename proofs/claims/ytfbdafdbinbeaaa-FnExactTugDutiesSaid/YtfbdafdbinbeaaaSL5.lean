/- Plain theorems about the model: a symbolic state, its evaluation and its soundness. No condition; nothing of the program is named. -/
import Derived.Test.YtfbdafdbinbeaaaSL4
set_option linter.unusedVariables false
set_option linter.unusedSimpArgs false
namespace Go.SL
open Go Go.RowKit

/-! ### composite values -/
def partT (P : Program) (t : TypeId) (i : Nat) : Option (Nat × Nat) :=
  match P.underlying t with
  | some (.struct fs) => (fs[i]?).map fun f => (f.offset, szT P f.type)
  | some (.array _ e) => some (i * szT P e, szT P e)
  | _ => none
def partsOk (P : Program) (t : TypeId) : Bool :=
  match P.underlying t with
  | some (.struct fs) => fs.toList.all fun f => hasT P f.type
  | some (.array _ e) => hasT P e
  | _ => false
def zeroT (P : Program) (t : TypeId) : Option (List Value) := ((P.info? t).bind (·.zero)).map fun z => z.cells.toList

def spliceC {α : Type} (o : Nat) (new cs : List α) : List α := cs.take o ++ (new ++ cs.drop (o + new.length))

def vfill (P : Program) (t : TypeId) : List (Nat × SV) → List SC → (List SC → Prop) → Prop
  | [], cs, K => K cs
  | (i, x) :: l, cs, K => match partT P t i with
    | some (off, size) => x.cells.length = size ∧ off + size ≤ cs.length ∧ (∀ r, x ≠ .c (.s r)) ∧ vfill P t l (spliceC off x.cells cs) K
    | none => False

def vbuild (P : Program) (t : TypeId) (parts : List (Nat × SV)) (K : SV → Prop) : Prop :=
  partsOk P t = true ∧ hasT P t = true ∧ match zeroT P t with
    | some z => vfill P t parts (z.map .v) fun cs => K (.g cs)
    | none => False

section
variable {P : Program} {W0 : Base} {h0 : Hp} {st : St} {g : Bool}

theorem fold_set_list : ∀ (new : List Value) (cs : List Value) (o j : Nat), o + j + new.length ≤ cs.length →
    (new.zipIdx j).foldl (fun (a : Array Value) (x : Value × Nat) => a.setIfInBounds (o + x.2) x.1) cs.toArray = (spliceC (o + j) new cs).toArray
  | [], cs, o, j, _ => by simp [spliceC]
  | v :: new, cs, o, j, h => by
    simp only [List.length_cons] at h
    simp only [List.zipIdx_cons, List.foldl_cons, List.setIfInBounds_toArray]
    rw [fold_set_list new (cs.set (o + j) v) o (j + 1) (by simp; omega)]
    congr 1
    simp only [spliceC]
    have m1 : min (o + (j + 1)) cs.length = o + (j + 1) := by omega
    have m2 : min (o + j) cs.length = o + j := by omega
    apply List.ext_getElem?
    intro i
    simp only [List.getElem?_append, List.length_take, List.length_set, List.getElem?_take, List.getElem?_drop, List.length_cons, List.getElem?_set, m1, m2]
    rcases Nat.lt_trichotomy i (o + j) with hi | hi | hi
    · rw [if_pos (by omega), if_pos (by omega), if_neg (by omega), if_pos (by omega), if_pos (by omega)]
    · subst hi
      rw [if_pos (by omega), if_pos (by omega), if_pos rfl, if_pos (by omega), if_neg (by omega), if_pos (by omega)]
      simp
    · rw [if_neg (show ¬ i < o + (j + 1) by omega), if_neg (show ¬ i < o + j by omega)]
      have e1 : i - (o + j) = (i - (o + (j + 1))) + 1 := by omega
      rw [e1]
      by_cases hc : i - (o + (j + 1)) < new.length
      · rw [if_pos hc, if_pos (by omega)]
        simp
      · rw [if_neg hc, if_neg (by omega), if_neg (by omega)]
        congr 1
        omega

theorem vfill_sound {nx : Nat} {t : TypeId} {pl : Nat → Option (Nat × Nat)} (hpl : ∀ i x, partT P t i = some x → pl i = some x) : ∀ {parts : List (Nat × SV)} {cs : List SC} {K : List SC → Prop},
    (∀ x ∈ parts, x.2.lt nx = true) → (∀ c ∈ cs, c.lt nx = true) → vfill P t parts cs K →
    ∃ cs', K cs' ∧ (∀ c ∈ cs', c.lt nx = true) ∧ ∀ ρ, Instr.fill pl (cs.map (·.conc ρ)).toArray (parts.map fun x => (x.1, x.2.conc ρ)) = some (cs'.map (·.conc ρ)).toArray
  | [], cs, K, _, hc, h => ⟨cs, h, hc, fun _ => rfl⟩
  | (i, x) :: l, cs, K, hp, hc, h => by
    simp only [vfill] at h
    split at h
    · rename_i off size hpt
      obtain ⟨h1, h2, h3, h⟩ := h
      have hxl := hp (i, x) List.mem_cons_self
      have hc' : ∀ c ∈ spliceC off x.cells cs, c.lt nx = true := by
        intro c hcc
        simp only [spliceC, List.mem_append] at hcc
        rcases hcc with hcc | hcc | hcc
        · exact hc c (List.mem_of_mem_take hcc)
        · exact SV.cells_lt hxl c hcc
        · exact hc c (List.mem_of_mem_drop hcc)
      obtain ⟨cs', k1, k2, k3⟩ := vfill_sound hpl (parts := l) (fun y hy => hp y (List.mem_cons_of_mem _ hy)) hc' h
      refine ⟨cs', k1, k2, fun ρ => ?_⟩
      rw [← k3 ρ]
      have hcx := (SV.cells_conc ρ x).resolve_right (fun ⟨r, hr⟩ => h3 r hr)
      have := fold_set_list (x.cells.map (·.conc ρ)) (cs.map (·.conc ρ)) off 0 (by simp [h1]; omega)
      simp only [Nat.add_zero] at this
      have e2 : ((x.cells.map (·.conc ρ)).toArray.zipIdx).foldl (fun (a : Array Value) (y : Value × Nat) => a.setIfInBounds (off + y.2) y.1) (cs.map (·.conc ρ)).toArray = ((spliceC off x.cells cs).map (·.conc ρ)).toArray := by
        rw [← Array.foldl_toList, Array.toList_zipIdx, this]
        simp [spliceC, List.map_take, List.map_drop]
      simp only [List.map_cons, Instr.fill, hpl _ _ hpt, hcx, List.size_toArray, List.length_map, h1, ne_eq, not_true_eq_false, gt_iff_lt, Nat.not_lt.2 h2, decide_false, Bool.or_self, Bool.false_eq_true, if_false]
      exact congrArg (fun A => Instr.fill pl A (l.map fun x => (x.1, x.2.conc ρ))) e2
    · cases h

theorem zeroT_spec {t : TypeId} {z : List Value} (h : zeroT P t = some z) : ∃ v : Value, v.cells.toList = z ∧ ∀ W, (zeroValue t).run P W = .ok v W := by
  unfold zeroT at h
  obtain ⟨v, h1, h2⟩ := Option.map_eq_some_iff.1 h
  obtain ⟨i, hi, hz⟩ := Option.bind_eq_some_iff.1 h1
  exact ⟨v, h2, fun W => by simp [zeroValue, typeInfo, hi, hz]⟩

theorem run_mapM_sizes {W : World} : ∀ (fs : List Field), (∀ f ∈ fs, hasT P f.type = true) →
    (fs.mapM (m := Sem) fun f => do pure (f.offset, ← sizeOf f.type)).run P W = .ok (fs.map fun f => (f.offset, szT P f.type)) W
  | [], _ => rfl
  | f :: fs, h => by
    have ih := run_mapM_sizes (W := W) fs (fun x hx => h x (List.mem_cons_of_mem _ hx))
    rw [List.mapM_cons]
    simp only [Sem.run_bind, run_sizeOf (P := P) (h f List.mem_cons_self), Result.andThen_ok, Sem.run_pure, ih, List.map_cons]

theorem vbuild_sound {t : TypeId} {parts : List (Nat × SV)} {K : SV → Prop} (hp : ∀ x ∈ parts, x.2.lt st.nx = true) (h : vbuild P t parts K) :
    ∃ sv, K sv ∧ sv.lt st.nx = true ∧ RunsTo P W0 h0 st (fun ρ => Instr.build t (parts.map fun x => (x.1, x.2.conc ρ)).toArray) (fun ρ => sv.conc ρ) := by
  obtain ⟨hok, hT, h⟩ := h
  split at h
  · rename_i z hz
    obtain ⟨v, hv, hrun⟩ := zeroT_spec hz
    have hz0 : ∀ c ∈ z.map SC.v, c.lt st.nx = true := by
      intro c hc
      obtain ⟨y, _, rfl⟩ := List.mem_map.1 hc
      rfl
    have hz1 : ∀ ρ, (z.map SC.v).map (·.conc ρ) = z := by intro ρ; simp [List.map_map, Function.comp_def]
    obtain ⟨d, hd⟩ := Option.isSome_iff_exists.1 hT
    have hvc : v.cells = z.toArray := by rw [← hv]
    unfold partsOk at hok
    rw [hd] at hok
    cases d <;> simp only at hok <;> first | cases hok | skip
    case struct fs =>
      have hall : ∀ f ∈ fs.toList, hasT P f.type = true := fun f hf => List.all_eq_true.1 hok f hf
      obtain ⟨cs', k1, k2, k3⟩ := vfill_sound (P := P) (t := t) (pl := fun i => (fs.toList.map fun f => (f.offset, szT P f.type)).toArray[i]?) (fun i x hx => by
        simp only [partT, hd] at hx
        simpa using hx) hp hz0 h
      refine ⟨.g cs', k1, by simpa [SV.lt, List.all_eq_true] using k2, RunsTo.mk fun ρ W hW => ?_⟩
      have hm : (fs.mapM (m := Sem) fun f => do pure (f.offset, ← sizeOf f.type)).run P W = .ok (fs.toList.map fun f => (f.offset, szT P f.type)).toArray W := by
        rw [Array.mapM_eq_mapM_toList]
        have e : ∀ m : Sem (List (Nat × Nat)), (List.toArray <$> m) = m >>= fun l => pure l.toArray := fun _ => rfl
        rw [e]
        simp only [Sem.run_bind, run_mapM_sizes (P := P) (W := W) fs.toList hall, Result.andThen_ok, Sem.run_pure]
      have hf := k3 ρ
      rw [hz1] at hf
      simp only [Instr.build, Sem.run_bind, hrun, Result.andThen_ok, run_underlying hd, hm, hvc]
      simp only [hf, Sem.run_pure, conc_g]
    case array n e =>
      obtain ⟨cs', k1, k2, k3⟩ := vfill_sound (P := P) (t := t) (pl := fun i => some (i * szT P e, szT P e)) (fun i x hx => by
        simp only [partT, hd] at hx
        simpa using hx) hp hz0 h
      refine ⟨.g cs', k1, by simpa [SV.lt, List.all_eq_true] using k2, RunsTo.mk fun ρ W hW => ?_⟩
      have hf := k3 ρ
      rw [hz1] at hf
      simp only [Instr.build, Sem.run_bind, hrun, Result.andThen_ok, run_underlying hd, run_sizeOf (P := P) hok, hvc]
      simp only [hf, Sem.run_pure, conc_g]
  · cases h
end
end Go.SL
