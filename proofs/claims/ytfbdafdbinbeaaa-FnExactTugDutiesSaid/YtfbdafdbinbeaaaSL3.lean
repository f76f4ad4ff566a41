/- Plain theorems about the model: a symbolic state, its evaluation and its soundness. No condition; nothing of the program is named. -/
import Derived.Test.YtfbdafdbinbeaaaSL2
set_option linter.unusedVariables false
set_option linter.unusedSimpArgs false
namespace Go.SL
open Go Go.RowKit

def fieldOf (P : Program) (t : TypeId) (f : Nat) : Option (Nat × TypeId) :=
  match P.underlying t with
  | some (.struct fs) => (fs[f]?).map fun x => (x.offset, x.type)
  | _ => none
def elemT (P : Program) (t : TypeId) : Option TypeId := match P.underlying t with | some (.slice e) => some e | _ => none
def arrT (P : Program) (t : TypeId) : Option (Nat × TypeId) := match P.underlying t with | some (.array n e) => some (n, e) | _ => none
def strT (P : Program) (t : TypeId) : Bool := match P.underlying t with | some .string => true | _ => false
def intT (P : Program) (t : TypeId) : Option IntKind := match P.underlying t with | some (.int k) => some k | _ => none

theorem mapv_lt (n : Nat) (xs : List Value) : (SV.g (xs.map .v)).lt n = true := by
  simp only [SV.lt, List.all_map, List.all_eq_true, Function.comp_def]
  exact fun _ _ => rfl

/-- What the operation runs to, whatever frame and world fit the state. -/
def RunsTo (P : Program) (W0 : Base) (h0 : Hp) (st : St) (S : Rho → Sem Value) (v : Rho → Value) : Prop :=
  ∀ ρ W, WOk W0 h0 ρ st.p st.h W → (S ρ).run P W = .ok (v ρ) W

section
variable {P : Program} {W0 : Base} {h0 : Hp} {st : St} {g : Bool}

theorem RunsTo.mk {S : Rho → Sem Value} {v : Rho → Value} (h : ∀ ρ W, WOk W0 h0 ρ st.p st.h W → (S ρ).run P W = .ok (v ρ) W) : RunsTo P W0 h0 st S v := h

theorem run_isAgg {t : TypeId} {W : World} (ht : (P.underlying t).isSome = true) : (isAgg t).run P W = .ok (aggT P t) W := by
  cases hu : P.underlying t with
  | none => rw [hu] at ht; cases ht
  | some d => cases d <;> simp [isAgg, run_underlying hu, aggT, hu]
theorem info_some {t : TypeId} (ht : (P.underlying t).isSome = true) : ∃ i, P.info? t = some i := by
  unfold Program.underlying at ht
  cases h : P.info? t with
  | none => rw [h] at ht; cases ht
  | some i => exact ⟨i, rfl⟩
theorem run_sizeOf {t : TypeId} {W : World} (ht : (P.underlying t).isSome = true) : (sizeOf t).run P W = .ok (szT P t) W := by
  obtain ⟨i, hi⟩ := info_some ht
  simp [sizeOf, typeInfo, hi, szT, Program.cellsOf]

def cutC (o n : Nat) (cs : List SC) : List SC := (cs.drop o).take n
def hasT (P : Program) (t : TypeId) : Bool := (P.underlying t).isSome

def vload (P : Program) (st : St) (g : Bool) (t : TypeId) (x : SV) (K : SV → Prop) : Prop :=
  hasT P t = true ∧
  match x with
  | .c (.p r o) => match look r st.p with
    | some (.box _ cs) => if aggT P t = true then (g = true → o + szT P t ≤ cs.length) ∧ K (.g (cutC o (szT P t) cs))
      else (g = true → o < cs.length) ∧ K (.c (cs.getD o (.v undef)))
    | some (.row _ _ _ xs) => if aggT P t = true then (g = true → o + szT P t ≤ xs.length) ∧ K (.g (((xs.drop o).take (szT P t)).map .v))
      else (g = true → o < xs.length) ∧ K (.c (.v (xs.getD o undef)))
    | none => False
  | .c (.v y) => if aggT P t = true then (g = true → Value.isP y ∧ (st.h.lds (Value.P y) (szT P t)).isSome = true) ∧ K (.g ((st.h.ldD (Value.P y) (szT P t)).map .v))
      else (g = true → Value.isP y ∧ (st.h.lds (Value.P y) 1).isSome = true) ∧ K (.c (.v ((st.h.ldD (Value.P y) 1).getD 0 undef)))
  | _ => False

theorem add_block (a : Addr) (n : Nat) : (a.add n).block = a.block := by unfold Addr.add; split <;> rfl

theorem run_loadVar_cells {t : TypeId} {W : World} {a : Addr} {cs : List Value} (ht : hasT P t = true)
    (h : ∀ j v, cs[j]? = some v → W.cell? (a.add j) = some v) (hn : cs.length = if aggT P t = true then szT P t else 1) :
    (loadVar t a).run P W = .ok (if aggT P t = true then .agg cs.toArray else cs.getD 0 undef) W := by
  by_cases hg : aggT P t = true
  · simp only [hg, if_true] at hn ⊢
    have hl := run_loadCells_list (P := P) W a cs h
    rw [hn] at hl
    simp [loadVar, run_isAgg ht, hg, run_sizeOf ht, hl]
  · simp only [hg, if_false, Bool.false_eq_true] at hn ⊢
    match cs, hn with
    | [v], _ =>
      have := h 0 v rfl
      simp only [Addr.add, if_true] at this
      simp [loadVar, run_isAgg ht, hg, load, Sem.run, this]

theorem add_mk (b o j : Nat) : (⟨b, o, none⟩ : Addr).add j = ⟨b, o + j, none⟩ := by
  unfold Addr.add
  split
  · rename_i h; subst h; rfl
  · rfl

theorem box_cells {ρ : Rho} {W : World} {r : Nat} {ty : TypeId} {cs : List SC} {base : Nat} (h : PB.ok base ρ r W (.box ty cs)) :
    ∀ j c, cs[j]? = some c → W.cell? ⟨blk (ρ r), j, none⟩ = some (c.conc ρ) := by
  intro j c hj
  obtain ⟨g, hg, _, hh⟩ := h
  rw [hg]
  simp only [blk]
  rw [cell_of_row W g j _ ty (0, 0) hh]
  simp [hj]

theorem row_cells {ρ : Rho} {W : World} {r : Nat} {e : TypeId} {sz n : Nat} {xs : List Value} {base : Nat} (h : PB.ok base ρ r W (.row e sz n xs)) :
    ∀ j v, xs[j]? = some v → W.cell? ⟨blk (ρ r), j, none⟩ = some v := by
  intro j v hj
  have hh : W.ownsRow base e sz (ρ r) n xs := h
  rcases hh.2 with ⟨_, h0⟩ | ⟨g, cap, cur, hv, _⟩
  · have := hh.1
    subst h0
    simp at this
    subst this
    simp at hj
  · have := hh.cells (g := g) (by rw [hv]; rfl) j v hj
    rw [hv]
    simp only [blk]
    rwa [add_mk, Nat.zero_add] at this

theorem vload_sound {t : TypeId} {x : SV} {K : SV → Prop} (hw : st.wf = true) (h : vload P st g t x K) :
    ∃ sv, K sv ∧ sv.lt st.nx = true ∧ (g = true → RunsTo P W0 h0 st (fun ρ => Instr.loadAt t (x.conc ρ)) (fun ρ => sv.conc ρ)) := by
  obtain ⟨ht, h⟩ := h
  have hpl : pbLt st.nx st.p = true := by simp only [St.wf, Bool.and_eq_true] at hw; exact hw.2
  split at h
  · rename_i r o
    split at h
    · rename_i ty cs hl
      have hlt : cs.all (·.lt st.nx) = true := (lookP_lt hpl hl).2
      simp only [List.all_eq_true] at hlt
      split at h
      · rename_i hg
        refine ⟨_, h.2, ?_, fun hgt ρ W hW => ?_⟩
        · simp only [SV.lt, List.all_eq_true, cutC]
          exact fun y hy => hlt y (List.mem_of_mem_drop (List.mem_of_mem_take hy))
        · have hb := hW.priv r _ hl
          have hc := box_cells hb
          have hlen := h.1 hgt
          have := run_loadVar_cells (P := P) (t := t) (W := W) (a := ⟨blk (ρ r), o, none⟩) (cs := (cutC o (szT P t) cs).map (·.conc ρ)) ht (fun j v hj => by
            rw [add_mk]
            simp only [cutC, List.getElem?_map, Option.map_eq_some_iff] at hj
            obtain ⟨c, hc1, rfl⟩ := hj
            refine hc _ _ ?_
            rw [List.getElem?_take] at hc1
            split at hc1
            · rwa [List.getElem?_drop] at hc1
            · cases hc1) (by simp [hg, cutC]; omega)
          simp only [Instr.loadAt, conc_c, conc_g, conc_v, conc_p, conc_s, Instr.sureAddr]
          simpa [hg] using this
      · rename_i hg
        refine ⟨_, h.2, ?_, fun hgt ρ W hW => ?_⟩
        · show SC.lt _ _ = true
          by_cases ho : o < cs.length
          · rw [List.getD_eq_getElem?_getD, List.getElem?_eq_getElem ho]; exact hlt _ (List.getElem_mem ho)
          · rw [List.getD_eq_getElem?_getD, List.getElem?_eq_none (by omega)]; rfl
        · have hb := hW.priv r _ hl
          have hc := box_cells hb
          have hlen := h.1 hgt
          have := run_loadVar_cells (P := P) (t := t) (W := W) (a := ⟨blk (ρ r), o, none⟩) (cs := [(cs.getD o (.v undef)).conc ρ]) ht (fun j v hj => by
            rw [add_mk]
            match j, hj with
            | 0, hj =>
              simp only [List.getElem?_cons_zero, Option.some.injEq] at hj
              subst hj
              exact hc _ _ (by rw [List.getD_eq_getElem?_getD, Nat.add_zero, List.getElem?_eq_getElem hlen]; rfl)
            | j + 1, hj => simp at hj) (by simp [hg])
          simp only [Instr.loadAt, conc_c, conc_g, conc_v, conc_p, conc_s, Instr.sureAddr]
          simpa [hg] using this
    · rename_i e sz n xs hl
      split at h
      · rename_i hg
        refine ⟨_, h.2, mapv_lt _ _, fun hgt ρ W hW => ?_⟩
        have hc := row_cells (hW.priv r _ hl)
        have hlen := h.1 hgt
        have := run_loadVar_cells (P := P) (t := t) (W := W) (a := ⟨blk (ρ r), o, none⟩) (cs := (xs.drop o).take (szT P t)) ht (fun j v hj => by
          rw [add_mk]
          refine hc _ _ ?_
          rw [List.getElem?_take] at hj
          split at hj
          · rwa [List.getElem?_drop] at hj
          · cases hj) (by simp [hg]; omega)
        simp only [Instr.loadAt, conc_c, conc_g, conc_v, conc_p, conc_s, Instr.sureAddr, List.map_map, Function.comp_def, List.map_id']
        simpa [hg] using this
      · rename_i hg
        refine ⟨_, h.2, rfl, fun hgt ρ W hW => ?_⟩
        have hc := row_cells (hW.priv r _ hl)
        have hlen := h.1 hgt
        have := run_loadVar_cells (P := P) (t := t) (W := W) (a := ⟨blk (ρ r), o, none⟩) (cs := [xs.getD o undef]) ht (fun j v hj => by
          rw [add_mk]
          match j, hj with
          | 0, hj =>
            simp only [List.getElem?_cons_zero, Option.some.injEq] at hj
            subst hj
            exact hc _ _ (by rw [List.getD_eq_getElem?_getD, Nat.add_zero, List.getElem?_eq_getElem hlen]; rfl)
          | j + 1, hj => simp at hj) (by simp [hg])
        simp only [Instr.loadAt, conc_c, conc_g, conc_v, conc_p, conc_s, Instr.sureAddr]
        simpa [hg] using this
    · cases h
  · rename_i y
    have key : ∀ n, (g = true → Value.isP y ∧ (st.h.lds (Value.P y) n).isSome = true) → g = true → ∃ a, y = .pointer (some a) ∧ ∃ l, st.h.lds (Value.P y) n = some l ∧ l.length = n ∧ ∀ ρ W, WOk W0 h0 ρ st.p st.h W → ∀ j v, l[j]? = some v → W.cell? (a.add j) = some v := by
      intro n hh hgt
      obtain ⟨h1, h2⟩ := hh hgt
      obtain ⟨a, rfl, ha⟩ := isP_eq h1
      rw [ha] at h2
      obtain ⟨l, hl⟩ := Option.isSome_iff_exists.1 h2
      have hs := cellsAt_spec (show st.h.cellsAt a 0 n = some l from hl)
      exact ⟨a, rfl, l, by rw [ha]; exact hl, hs.1, fun ρ W hW j v hj => cell_of_sees hW.sees (by simpa using hs.2 j v hj)⟩
    split at h
    · rename_i hg
      refine ⟨_, h.2, mapv_lt _ _, fun hgt ρ W hW => ?_⟩
      obtain ⟨a, rfl, l, hl, hlen, hc⟩ := key _ h.1 hgt
      have := run_loadVar_cells (P := P) (t := t) (W := W) (a := a) (cs := l) ht (hc ρ W hW) (by simp [hg, hlen])
      simp only [Instr.loadAt, conc_c, conc_g, conc_v, conc_p, conc_s, Instr.sureAddr, List.map_map, Function.comp_def, List.map_id', ldD_of hl]
      simpa [hg] using this
    · rename_i hg
      refine ⟨_, h.2, rfl, fun hgt ρ W hW => ?_⟩
      obtain ⟨a, rfl, l, hl, hlen, hc⟩ := key _ h.1 hgt
      have := run_loadVar_cells (P := P) (t := t) (W := W) (a := a) (cs := l) ht (hc ρ W hW) (by simp [hg, hlen])
      simp only [Instr.loadAt, conc_c, conc_g, conc_v, conc_p, conc_s, Instr.sureAddr, ldD_of hl]
      simpa [hg] using this
  · cases h

/-! ### addresses -/
def vfieldAddr (P : Program) (g : Bool) (t : TypeId) (x : SV) (f : Nat) (K : SV → Prop) : Prop :=
  match fieldOf P t f with
  | none => False
  | some (off, ft) => hasT P ft = true ∧ szT P ft ≠ 0 ∧
    match x with
    | .c (.p r o) => K (.c (.p r (o + off)))
    | .c (.v y) => (g = true → Value.isP y) ∧ K (.c (.v (.pointer ((Value.P y).map (·.add off)))))
    | _ => False

theorem fieldOf_spec {t : TypeId} {f off : Nat} {ft : TypeId} (h : fieldOf P t f = some (off, ft)) : ∃ fs fd, P.underlying t = some (.struct fs) ∧ fs[f]? = some fd ∧ fd.offset = off ∧ fd.type = ft := by
  unfold fieldOf at h
  split at h
  · rename_i fs hu
    obtain ⟨fd, h1, h2⟩ := Option.map_eq_some_iff.1 h
    simp only [Prod.mk.injEq] at h2
    exact ⟨fs, fd, hu, h1, h2.1, h2.2⟩
  · cases h

theorem vfieldAddr_sound {t : TypeId} {x : SV} {f : Nat} {K : SV → Prop} (hx : x.lt st.nx = true) (h : vfieldAddr P g t x f K) :
    ∃ sv, K sv ∧ sv.lt st.nx = true ∧ (g = true → RunsTo P W0 h0 st (fun ρ => Instr.fieldAt t (x.conc ρ) f) (fun ρ => sv.conc ρ)) := by
  unfold vfieldAddr at h
  split at h
  · cases h
  · rename_i off ft hf
    obtain ⟨hT, hs, h⟩ := h
    obtain ⟨fs, fd, hu, hfd, rfl, rfl⟩ := fieldOf_spec hf
    have run : ∀ (a : Addr) (W : World), (Instr.fieldAt t (.pointer (some a)) f).run P W = .ok (.pointer (some (a.add fd.offset))) W := by
      intro a W
      simp [Instr.fieldAt, run_underlying hu, hfd, Instr.sureAddr, fieldPlace, run_sizeOf hT, hs]
    split at h
    · rename_i r o
      refine ⟨_, h, hx, fun _ ρ W hW => ?_⟩
      simp only [conc_c, conc_g, conc_v, conc_p, conc_s, run, add_mk]
    · rename_i y
      refine ⟨_, h.2, rfl, fun hgt ρ W hW => ?_⟩
      obtain ⟨a, rfl, ha⟩ := isP_eq (h.1 hgt)
      simp only [conc_c, conc_g, conc_v, conc_p, conc_s, run, ha, Option.map_some]
    · cases h

def vindexAddr (P : Program) (st : St) (g : Bool) (t : TypeId) (x i : SV) (K : SV → Prop) : Prop :=
  (g = true → ∃ k, Value.isI k i.val) ∧
  match elemT P t with
  | some e => hasT P e = true ∧
    match x with
    | .c (.s r) => match look r st.p with
      | some (.row _ _ n _) => (g = true → 0 ≤ Value.I i.val ∧ Value.I i.val < n) ∧ K (.c (.p r ((Value.I i.val).toNat * szT P e)))
      | _ => False
    | .c (.v y) => (g = true → Value.isA y ∧ 0 ≤ Value.I i.val ∧ Value.I i.val < Value.L y ∧ (Value.A y).isSome = true) ∧ K (.c (.v (.pointer ((Value.A y).map (·.add ((Value.I i.val).toNat * szT P e))))))
    | _ => False
  | none => match arrT P t with
    | some (n, e) => hasT P e = true ∧
      match x with
      | .c (.p r o) => (g = true → 0 ≤ Value.I i.val ∧ Value.I i.val < n) ∧ K (.c (.p r (o + (Value.I i.val).toNat * szT P e)))
      | .c (.v y) => (g = true → Value.isP y ∧ 0 ≤ Value.I i.val ∧ Value.I i.val < n) ∧ K (.c (.v (.pointer ((Value.P y).map (·.add ((Value.I i.val).toNat * szT P e))))))
      | _ => False
    | none => False

theorem elemT_spec {t e : TypeId} (h : elemT P t = some e) : P.underlying t = some (.slice e) := by
  unfold elemT at h
  split at h
  · rename_i hu; simp only [Option.some.injEq] at h; rw [hu, h]
  · cases h
theorem arrT_spec {t e : TypeId} {n : Nat} (h : arrT P t = some (n, e)) : P.underlying t = some (.array n e) := by
  unfold arrT at h
  split at h
  · rename_i hu; simp only [Option.some.injEq, Prod.mk.injEq] at h; rw [hu, h.1, h.2]
  · cases h

theorem vindexAddr_sound {t : TypeId} {x i : SV} {K : SV → Prop} (hx : x.lt st.nx = true) (h : vindexAddr P st g t x i K) :
    ∃ sv, K sv ∧ sv.lt st.nx = true ∧ (g = true → RunsTo P W0 h0 st (fun ρ => Instr.indexAt t (x.conc ρ) (i.conc ρ)) (fun ρ => sv.conc ρ)) := by
  obtain ⟨hi, h⟩ := h
  split at h
  · rename_i e he
    have hu := elemT_spec he
    obtain ⟨hT, h⟩ := h
    have run : ∀ (a : Addr) (k : IntKind) (n : Nat) (cap : Nat) (ix : Int) (W : World), 0 ≤ ix → ix < n → (Instr.indexAt t (.slice (some a) n cap) (.int k ix)).run P W = .ok (.pointer (some (a.add (ix.toNat * szT P e)))) W := by
      intro a k n cap ix W h1 h2
      simp [Instr.indexAt, asIntOf, run_underlying hu, h1, h2, run_sizeOf hT]
    split at h
    · rename_i r
      split at h
      · rename_i e' sz n xs hl
        refine ⟨_, h.2, hx, fun hgt ρ W hW => ?_⟩
        obtain ⟨k, hk⟩ := hi hgt
        obtain ⟨b1, b2⟩ := h.1 hgt
        have hb : W.ownsRow 0 e' sz (ρ r) n xs := hW.priv r _ hl
        rcases hb.2 with ⟨_, h0⟩ | ⟨gg, cap, cur, hv, _⟩
        · omega
        · simp only [conc_c, conc_g, conc_v, conc_p, conc_s]
          rw [show i.conc ρ = .int k (Value.I i.val) from isI_conc hk, hv, run _ _ _ _ _ _ b1 b2]
          simp only [blk, add_mk, Nat.zero_add]
      · cases h
    · rename_i y
      refine ⟨_, h.2, rfl, fun hgt ρ W hW => ?_⟩
      obtain ⟨k, hk⟩ := hi hgt
      obtain ⟨b0, b1, b2, b3⟩ := h.1 hgt
      obtain ⟨a, ha⟩ := Option.isSome_iff_exists.1 b3
      have hy := isA_eq b0
      rw [ha] at hy
      simp only [conc_c, conc_g, conc_v, conc_p, conc_s]
      rw [show i.conc ρ = .int k (Value.I i.val) from isI_conc hk, ha]
      conv => lhs; rw [hy]
      rw [run _ _ _ _ _ _ b1 b2]
      rfl
    · cases h
  · split at h
    · rename_i n e he
      have hu := arrT_spec he
      obtain ⟨hT, h⟩ := h
      have run : ∀ (a : Addr) (k : IntKind) (ix : Int) (W : World), 0 ≤ ix → ix < n → (Instr.indexAt t (.pointer (some a)) (.int k ix)).run P W = .ok (.pointer (some (a.add (ix.toNat * szT P e)))) W := by
        intro a k ix W h1 h2
        simp [Instr.indexAt, asIntOf, run_underlying hu, Instr.sureAddr, h1, h2, run_sizeOf hT]
      split at h
      · rename_i r o
        refine ⟨_, h.2, hx, fun hgt ρ W hW => ?_⟩
        obtain ⟨k, hk⟩ := hi hgt
        obtain ⟨b1, b2⟩ := h.1 hgt
        simp only [conc_c, conc_p]
        rw [show i.conc ρ = .int k (Value.I i.val) from isI_conc hk, run _ _ _ _ b1 b2, add_mk]
      · rename_i y
        refine ⟨_, h.2, rfl, fun hgt ρ W hW => ?_⟩
        obtain ⟨k, hk⟩ := hi hgt
        obtain ⟨b0, b1, b2⟩ := h.1 hgt
        obtain ⟨a, rfl, ha⟩ := isP_eq b0
        simp only [conc_c, conc_g, conc_v, conc_p, conc_s]
        rw [show i.conc ρ = .int k (Value.I i.val) from isI_conc hk, run _ _ _ _ b1 b2, ha]
        rfl
      · cases h
    · cases h
end
end Go.SL
