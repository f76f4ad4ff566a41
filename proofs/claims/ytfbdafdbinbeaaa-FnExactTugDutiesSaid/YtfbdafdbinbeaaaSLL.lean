/- Plain theorems about the model: a symbolic state, its evaluation and its soundness. No condition; nothing of the program is named. -/
import Derived.Test.YtfbdafdbinbeaaaSLD
import Derived.Deep.Slices
import Derived.Deep.Fields
import Derived.ProofKit
set_option linter.unusedVariables false
set_option linter.unusedSimpArgs false
namespace Go.SL
open Go Go.RowKit Go.ChangeShapes Go.WideShapes Go.Deep Go.ChangeAt

section
variable {P : Program} {t e : TypeId}
theorem field_int {t' : TypeId} (ht : P.underlying t' = some (.int .i64)) {H : Type} {enc : TypeId × Value → H} {w : World} {base : Nat} {spare : Nat → Bool} {held : Bool} {cs : List Value} {fs : Array Field}
    (h : ∀ (i : Nat) (f : Field), fs[i]? = some f → ∃ n y, DataW.trod enc P w base spare held n f.type ((cs.drop f.offset).take (P.cellsOf f.type)) = some y) (i off : Nat) (hf : ∃ f, fs[i]? = some f ∧ f.type = t' ∧ f.offset = off) (hc : P.cellsOf t' = 1) :
    ∃ n : Int, (cs.drop off).take 1 = [.int .i64 n] ∧ I64 n := by
  obtain ⟨f, h1, rfl, rfl⟩ := hf
  obtain ⟨n, y, h⟩ := h i f h1
  rw [hc] at h
  obtain ⟨n, h2, _, wf⟩ := DataW.trod_int ht h
  refine ⟨n, h2, ?_⟩
  simp [Lit.wf] at wf
  exact wf
theorem field_bool {t' : TypeId} (ht : P.underlying t' = some .bool) {H : Type} {enc : TypeId × Value → H} {w : World} {base : Nat} {spare : Nat → Bool} {held : Bool} {cs : List Value} {fs : Array Field}
    (h : ∀ (i : Nat) (f : Field), fs[i]? = some f → ∃ n y, DataW.trod enc P w base spare held n f.type ((cs.drop f.offset).take (P.cellsOf f.type)) = some y) (i off : Nat) (hf : ∃ f, fs[i]? = some f ∧ f.type = t' ∧ f.offset = off) (hc : P.cellsOf t' = 1) :
    ∃ n : Bool, (cs.drop off).take 1 = [.bool n] := by
  obtain ⟨f, h1, rfl, rfl⟩ := hf
  obtain ⟨n, y, h⟩ := h i f h1
  rw [hc] at h
  obtain ⟨n, h2, _⟩ := DataW.trod_bool ht h
  exact ⟨n, h2⟩
theorem field_string {t' : TypeId} (ht : P.underlying t' = some .string) {H : Type} {enc : TypeId × Value → H} {w : World} {base : Nat} {spare : Nat → Bool} {held : Bool} {cs : List Value} {fs : Array Field}
    (h : ∀ (i : Nat) (f : Field), fs[i]? = some f → ∃ n y, DataW.trod enc P w base spare held n f.type ((cs.drop f.offset).take (P.cellsOf f.type)) = some y) (i off : Nat) (hf : ∃ f, fs[i]? = some f ∧ f.type = t' ∧ f.offset = off) (hc : P.cellsOf t' = 1) :
    ∃ n : ByteArray, (cs.drop off).take 1 = [.string n] ∧ StrOk n := by
  obtain ⟨f, h1, rfl, rfl⟩ := hf
  obtain ⟨n, y, h⟩ := h i f h1
  rw [hc] at h
  obtain ⟨n, h2, _, h3⟩ := DataW.trod_string ht h
  exact ⟨n, h2, h3⟩
end

section
variable {P : Program} {t e : TypeId} {H : Type} {enc : TypeId × Value → H} {W : World} {base base' : Nat} {sp : Nat → Bool} {held : Bool} {v : Value} {d : DataW H} {p : List MemPlace}
theorem open1_slice {α : Type} [Enc α] (ht : P.underlying t = some (.slice e)) (Ho : Opens (Sl α) P t) (hv : Value.okWide P W .any base t v) (h : DataW.Trod enc P W base' sp held t v d p) : ∃ s : Sl α, v = s.val ∧ Enc.ok (vw W) s := by
  obtain ⟨a, len, cap, rfl⟩ := okWide_slice ht hv
  obtain ⟨fuel, h⟩ := h
  obtain ⟨s, e0, ok⟩ := Ho H enc W _ _ _ _ _ _ h
  have e0 : [Value.slice a len cap] = [s.val] := e0
  exact ⟨s, by injection e0, ok⟩
theorem open1_struct {α : Type} [Enc α] {fs : Array Field} (ht : P.underlying t = some (.struct fs)) (Ho : Opens α P t) (hv : Value.okWide P W .any base t v) (h : DataW.Trod enc P W base' sp held t v d p) : ∃ c : α, v = .agg (Enc.enc c).toArray ∧ Enc.ok (vw W) c := by
  obtain ⟨cs, rfl, _⟩ := okWide_struct ht hv
  obtain ⟨fuel, h⟩ := h
  obtain ⟨s, e0, ok⟩ := Ho H enc W _ _ _ _ _ _ h
  have e1 : cs.toList = Enc.enc s := e0
  exact ⟨s, by rw [← e1], ok⟩
theorem open1_int (ht : P.underlying t = some (.int .i64)) (hv : Value.okWide P W .any base t v) (h : DataW.Trod enc P W base' sp held t v d p) : ∃ n : Int, v = .int .i64 n ∧ I64 n := by
  obtain ⟨n, rfl⟩ := okWide_int ht hv
  obtain ⟨fuel, h⟩ := h
  obtain ⟨n', h2, _, wf⟩ := DataW.trod_int ht h
  have h2 : [Value.int .i64 n] = [.int .i64 n'] := h2
  injection h2 with h2
  injection h2 with _ h2
  subst h2
  refine ⟨n, rfl, ?_⟩
  simp [Lit.wf] at wf
  exact wf
theorem open1_bool (ht : P.underlying t = some .bool) (hv : Value.okWide P W .any base t v) : ∃ n : Bool, v = .bool n := okWide_bool ht hv
end
/-- The arguments read as they did. -/
theorem trodAll_stays {H : Type} {enc : TypeId × Value → H} {P : Program} {W W' : World} {sp : Nat → Bool} (hl : laidOutB P = true) (hb : Below W.heap.size W W') : ∀ {ts : List TypeId} {vs : List Value} {ds : List (DataW H)} {ps : List MemPlace},
    (ts.all fun t => P.readableRec t && decide (t < P.types.size)) = true → (∀ x ∈ ps, x.block < W.heap.size) → (∀ p ∈ ps, sp p.block = true) → DataW.TrodAll enc P W 0 (fun _ => true) true ts vs ds ps → DataW.TrodAll enc P W' 0 sp true ts vs ds ps
  | [], vs, ds, ps, _, _, _, h => by
    obtain ⟨rfl, rfl, rfl⟩ := trodAll_nil h
    exact trodAll_mk0
  | t :: ts, vs, ds, ps, ht, hp, hs, h => by
    obtain ⟨v, vs', d, ds', p, q, rfl, rfl, rfl, h1, h2⟩ := trodAll_cons h
    simp only [List.all_cons, Bool.and_eq_true, decide_eq_true_eq] at ht
    exact ⟨p, q, WideElems.Trod_stays hl ht.1.1 ht.1.2 h1 (fun x hx => hb.same (hp x (List.mem_append_left _ hx))) (fun x hx => hs x (List.mem_append_left _ hx)),
      trodAll_stays hl hb (by simpa using ht.2) (fun x hx => hp x (List.mem_append_right _ hx)) (fun x hx => hs x (List.mem_append_right _ hx)) h2, rfl⟩
end Go.SL
