/- Plain theorems about the model: a symbolic state, its evaluation and its soundness. No condition; nothing of the program is named. -/
import Derived.Test.YtfbdafdbinbeaaaSL3
set_option linter.unusedVariables false
set_option linter.unusedSimpArgs false
namespace Go.SL
open Go Go.RowKit

section
variable {P : Program} {W0 : Base} {h0 : Hp} {st : St} {g : Bool}

/-! ### parts of values -/
def isG : SV → Prop
  | .g _ => True
  | .c (.v (.agg _)) => True
  | _ => False
theorem isG_conc {x : SV} (h : isG x) (ρ : Rho) : x.conc ρ = .agg (x.cells.map (·.conc ρ)).toArray := by
  cases x with
  | g cs => rfl
  | c x => cases x with
    | v x => cases x <;> simp_all [isG, SV.cells, List.map_map, Function.comp_def]
    | _ => cases h

def vfield (P : Program) (g : Bool) (t : TypeId) (x : SV) (f : Nat) (K : SV → Prop) : Prop :=
  match fieldOf P t f with
  | none => False
  | some (off, ft) => hasT P ft = true ∧ (g = true → isG x) ∧
    if aggT P ft = true then K (.g (cutC off (szT P ft) x.cells))
    else (g = true → off < x.cells.length) ∧ K (.c (x.cells.getD off (.v undef)))

theorem run_part {t : TypeId} {W : World} {cs : List SC} {ρ : Rho} {o : Nat} (ht : hasT P t = true) (ho : aggT P t = true ∨ o < cs.length) :
    (part t (cs.map (·.conc ρ)).toArray o).run P W = .ok (if aggT P t = true then .agg ((cutC o (szT P t) cs).map (·.conc ρ)).toArray else (cs.getD o (.v undef)).conc ρ) W := by
  by_cases hg : aggT P t = true
  · simp [part, run_isAgg ht, hg, run_sizeOf ht, cutC, List.extract_eq_take_drop, List.map_take, List.map_drop]
  · have ho : o < cs.length := ho.resolve_left hg
    simp [part, run_isAgg ht, hg, ho, List.getD_eq_getElem?_getD]

theorem vfield_sound {t : TypeId} {x : SV} {f : Nat} {K : SV → Prop} (hx : x.lt st.nx = true) (h : vfield P g t x f K) :
    ∃ sv, K sv ∧ sv.lt st.nx = true ∧ (g = true → RunsTo P W0 h0 st (fun ρ => Instr.field t (x.conc ρ) f) (fun ρ => sv.conc ρ)) := by
  have hc := SV.cells_lt hx
  unfold vfield at h
  split at h
  · cases h
  · rename_i off ft hf
    obtain ⟨hT, hG, h⟩ := h
    obtain ⟨fs, fd, hu, hfd, rfl, rfl⟩ := fieldOf_spec hf
    split at h
    · rename_i hg
      refine ⟨_, h, ?_, fun hgt => RunsTo.mk fun ρ W hW => ?_⟩
      · simp only [SV.lt, List.all_eq_true, cutC]
        exact fun y hy => hc y (List.mem_of_mem_drop (List.mem_of_mem_take hy))
      · rw [isG_conc (hG hgt) ρ]
        have := run_part (P := P) (W := W) (cs := x.cells) (ρ := ρ) (o := fd.offset) hT (.inl hg)
        simp only [hg, if_true] at this
        simp [Instr.field, run_underlying hu, hfd, asAgg, this]
    · rename_i hg
      refine ⟨_, h.2, ?_, fun hgt => RunsTo.mk fun ρ W hW => ?_⟩
      · show SC.lt _ _ = true
        by_cases ho : fd.offset < x.cells.length
        · rw [List.getD_eq_getElem?_getD, List.getElem?_eq_getElem ho]; exact hc _ (List.getElem_mem ho)
        · rw [List.getD_eq_getElem?_getD, List.getElem?_eq_none (by omega)]; rfl
      · rw [isG_conc (hG hgt) ρ]
        have := run_part (P := P) (W := W) (cs := x.cells) (ρ := ρ) (o := fd.offset) hT (.inr (h.1 hgt))
        simp only [hg, if_false, Bool.false_eq_true] at this
        simp [Instr.field, run_underlying hu, hfd, asAgg, this]

def vindex (P : Program) (g : Bool) (t : TypeId) (x i : SV) (K : SV → Prop) : Prop :=
  (g = true → ∃ k, Value.isI k i.val) ∧
  match arrT P t with
  | some (n, e) => hasT P e = true ∧ (g = true → isG x ∧ 0 ≤ Value.I i.val ∧ Value.I i.val < n) ∧
    if aggT P e = true then K (.g (cutC ((Value.I i.val).toNat * szT P e) (szT P e) x.cells))
    else (g = true → (Value.I i.val).toNat * szT P e < x.cells.length) ∧ K (.c (x.cells.getD ((Value.I i.val).toNat * szT P e) (.v undef)))
  | none => strT P t = true ∧ (g = true → Value.isS x.val ∧ 0 ≤ Value.I i.val ∧ Value.I i.val < (Value.S x.val).size) ∧
      K (.c (.v (.int .u8 (((Value.S x.val)[(Value.I i.val).toNat]?).getD 0).toNat)))

theorem strT_spec {t : TypeId} (h : strT P t = true) : P.underlying t = some .string := by
  unfold strT at h
  split at h
  · rename_i hu; exact hu
  · cases h

theorem vindex_sound {t : TypeId} {x i : SV} {K : SV → Prop} (hx : x.lt st.nx = true) (h : vindex P g t x i K) :
    ∃ sv, K sv ∧ sv.lt st.nx = true ∧ (g = true → RunsTo P W0 h0 st (fun ρ => Instr.index t (x.conc ρ) (i.conc ρ)) (fun ρ => sv.conc ρ)) := by
  have hc := SV.cells_lt hx
  obtain ⟨hi, h⟩ := h
  split at h
  · rename_i n e he
    have hu := arrT_spec he
    obtain ⟨hT, hG, h⟩ := h
    split at h
    · rename_i hg
      refine ⟨_, h, ?_, fun hgt => RunsTo.mk fun ρ W hW => ?_⟩
      · simp only [SV.lt, List.all_eq_true, cutC]
        exact fun y hy => hc y (List.mem_of_mem_drop (List.mem_of_mem_take hy))
      · obtain ⟨k, hk⟩ := hi hgt
        rw [isG_conc (hG hgt).1 ρ, show i.conc ρ = .int k (Value.I i.val) from isI_conc hk]
        have := run_part (P := P) (W := W) (cs := x.cells) (ρ := ρ) (o := (Value.I i.val).toNat * szT P e) hT (.inl hg)
        simp only [hg, if_true] at this
        simp [Instr.index, asIntOf, run_underlying hu, hG hgt, run_sizeOf hT, this]
    · rename_i hg
      refine ⟨_, h.2, ?_, fun hgt => RunsTo.mk fun ρ W hW => ?_⟩
      · show SC.lt _ _ = true
        by_cases ho : (Value.I i.val).toNat * szT P e < x.cells.length
        · rw [List.getD_eq_getElem?_getD, List.getElem?_eq_getElem ho]; exact hc _ (List.getElem_mem ho)
        · rw [List.getD_eq_getElem?_getD, List.getElem?_eq_none (by omega)]; rfl
      · obtain ⟨k, hk⟩ := hi hgt
        rw [isG_conc (hG hgt).1 ρ, show i.conc ρ = .int k (Value.I i.val) from isI_conc hk]
        have := run_part (P := P) (W := W) (cs := x.cells) (ρ := ρ) (o := (Value.I i.val).toNat * szT P e) hT (.inr (h.1 hgt))
        simp only [hg, if_false, Bool.false_eq_true] at this
        simp [Instr.index, asIntOf, run_underlying hu, hG hgt, run_sizeOf hT, this]
  · obtain ⟨hs, hb, h⟩ := h
    have hu := strT_spec hs
    refine ⟨_, h, rfl, fun hgt => RunsTo.mk fun ρ W hW => ?_⟩
    obtain ⟨k, hk⟩ := hi hgt
    obtain ⟨b0, b1, b2⟩ := hb hgt
    rw [isS_conc (ρ := ρ) b0, show i.conc ρ = .int k (Value.I i.val) from isI_conc hk]
    have hlt : (Value.I i.val).toNat < (Value.S x.val).size := by omega
    simp [Instr.index, asIntOf, run_underlying hu, b1, hlt]

def vlen (P : Program) (st : St) (g : Bool) (t : TypeId) (x : SV) (K : SV → Prop) : Prop :=
  match elemT P t with
  | some _ => match x with
    | .c (.s r) => match look r st.p with
      | some (.row _ _ n _) => K (.c (.v (.int .i64 n)))
      | _ => False
    | .c (.v y) => (g = true → Value.isA y) ∧ K (.c (.v (.int .i64 (Value.L y))))
    | _ => False
  | none => match arrT P t with
    | some (n, _) => K (.c (.v (.int .i64 n)))
    | none => strT P t = true ∧ (g = true → Value.isS x.val) ∧ K (.c (.v (.int .i64 (Value.S x.val).size)))

theorem vlen_sound {t ty : TypeId} {ts : Array TypeId} {x : SV} {K : SV → Prop} (h : vlen P st g t x K) :
    ∃ sv, K sv ∧ sv.lt st.nx = true ∧ (g = true → RunsTo P W0 h0 st (fun ρ => Builtin.len_ #[t] ty #[x.conc ρ]) (fun ρ => sv.conc ρ)) := by
  unfold vlen at h
  split at h
  · rename_i e he
    have hu := elemT_spec he
    split at h
    · rename_i r
      split at h
      · rename_i e' sz n xs hl
        refine ⟨_, h, rfl, fun _ => RunsTo.mk fun ρ W hW => ?_⟩
        have hb : W.ownsRow 0 e' sz (ρ r) n xs := hW.priv r _ hl
        rcases hb.2 with ⟨hv, h0⟩ | ⟨gg, cap, cur, hv, _⟩
        · subst h0; simp [Builtin.len_, run_underlying hu, hv, goInt]
        · simp [Builtin.len_, run_underlying hu, hv, goInt]
      · cases h
    · rename_i y
      refine ⟨_, h.2, rfl, fun hgt => RunsTo.mk fun ρ W hW => ?_⟩
      have hy := isA_eq (h.1 hgt)
      rw [conc_c, conc_v, hy]
      simp [Builtin.len_, run_underlying hu, goInt, Value.L]
    · cases h
  · split at h
    · rename_i n e he
      have hu := arrT_spec he
      exact ⟨_, h, rfl, fun _ => RunsTo.mk fun ρ W hW => by simp [Builtin.len_, run_underlying hu, goInt]⟩
    · have hu := strT_spec h.1
      refine ⟨_, h.2.2, rfl, fun hgt => RunsTo.mk fun ρ W hW => ?_⟩
      rw [isS_conc (ρ := ρ) (h.2.1 hgt)]
      simp [Builtin.len_, run_underlying hu, goInt]

/-- max and min of integers. -/
def foldI (f : Int → Int → Int) (a : Int) : List SV → Int
  | [] => a
  | x :: xs => foldI f (f a (Value.I x.val)) xs
def allI (k : IntKind) : List SV → Prop
  | [] => True
  | x :: xs => Value.isI k x.val ∧ allI k xs
def vfold (P : Program) (g : Bool) (f : Int → Int → Int) (t : TypeId) (xs : List SV) (K : SV → Prop) : Prop :=
  match intT P t, xs with
  | some k, x :: xs => (g = true → Value.isI k x.val ∧ allI k xs) ∧ K (.c (.v (.int k (foldI f (Value.I x.val) xs))))
  | _, _ => False

theorem max2_eq (k : IntKind) (a b : Int) (W : World) : (Builtin.max2 (.int k a) (.int k b)).run P W = .ok (.int k (max a b)) W := by
  simp only [Builtin.max2, Sem.run_pure, Int.max_def]
  congr 2
  split <;> split <;> omega
theorem min2_eq (k : IntKind) (a b : Int) (W : World) : (Builtin.min2 (.int k a) (.int k b)).run P W = .ok (.int k (min a b)) W := by
  simp only [Builtin.min2, Sem.run_pure, Int.min_def]
  congr 2
  split <;> split <;> omega

theorem run_foldI {F : Value → Value → Sem Value} {f : Int → Int → Int} {k : IntKind} {ρ : Rho} {W : World} (hF : ∀ a b, (F (.int k a) (.int k b)).run P W = .ok (.int k (f a b)) W) :
    ∀ (xs : List SV) (a : Int), allI k xs → ((xs.map (·.conc ρ)).foldlM F (.int k a)).run P W = .ok (.int k (foldI f a xs)) W
  | [], a, _ => by simp [foldI]
  | x :: xs, a, h => by
    rw [List.map_cons, isI_conc (ρ := ρ) h.1]
    simp only [List.foldlM_cons, Sem.run_bind, hF, Result.andThen_ok, foldI]
    exact run_foldI hF xs _ h.2

theorem vmax_sound {t ty : TypeId} {ts : Array TypeId} {xs : List SV} {K : SV → Prop} (h : vfold P g max t xs K) :
    ∃ sv, K sv ∧ sv.lt st.nx = true ∧ (g = true → RunsTo P W0 h0 st (fun ρ => Builtin.max_ ts ty (xs.map (·.conc ρ)).toArray) (fun ρ => sv.conc ρ)) := by
  unfold vfold at h
  split at h
  · rename_i k x xs _
    refine ⟨_, h.2, rfl, fun hgt => RunsTo.mk fun ρ W hW => ?_⟩
    obtain ⟨h1, h2⟩ := h.1 hgt
    rw [List.map_cons, isI_conc (ρ := ρ) h1]
    simp only [Builtin.max_]
    exact run_foldI (fun a b => max2_eq k a b W) xs _ h2
  · cases h
theorem vmin_sound {t ty : TypeId} {ts : Array TypeId} {xs : List SV} {K : SV → Prop} (h : vfold P g min t xs K) :
    ∃ sv, K sv ∧ sv.lt st.nx = true ∧ (g = true → RunsTo P W0 h0 st (fun ρ => Builtin.min_ ts ty (xs.map (·.conc ρ)).toArray) (fun ρ => sv.conc ρ)) := by
  unfold vfold at h
  split at h
  · rename_i k x xs _
    refine ⟨_, h.2, rfl, fun hgt => RunsTo.mk fun ρ W hW => ?_⟩
    obtain ⟨h1, h2⟩ := h.1 hgt
    rw [List.map_cons, isI_conc (ρ := ρ) h1]
    simp only [Builtin.min_]
    exact run_foldI (fun a b => min2_eq k a b W) xs _ h2
  · cases h

def vun (g : Bool) (op : UnOp) (x : SV) (K : SV → Prop) : Prop :=
  match op with
  | .not => (g = true → Value.isB x.val) ∧ K (.c (.v (.bool (!Value.B x.val))))
  | .neg => (g = true → Value.isI .i64 x.val) ∧ K (.c (.v (.int .i64 (IntKind.i64.wrap (0 - Value.I x.val)))))
  | _ => False
theorem vun_sound {op : UnOp} {x : SV} {K : SV → Prop} (h : vun g op x K) :
    ∃ sv, K sv ∧ sv.lt st.nx = true ∧ (g = true → RunsTo P W0 h0 st (fun ρ => Op.unary op (x.conc ρ)) (fun ρ => sv.conc ρ)) := by
  cases op <;> simp only [vun] at h <;> first | exact h.elim | skip
  · refine ⟨_, h.2, rfl, fun hgt => RunsTo.mk fun ρ W hW => ?_⟩
    rw [isI_conc (ρ := ρ) (h.1 hgt)]
    simp [Op.unary, Op.intArith]
  · refine ⟨_, h.2, rfl, fun hgt => RunsTo.mk fun ρ W hW => ?_⟩
    rw [isB_conc (ρ := ρ) (h.1 hgt)]
    simp [Op.unary]

def vconv (P : Program) (g : Bool) (s d : TypeId) (x : SV) (K : SV → Prop) : Prop :=
  match intT P d with
  | some k => hasT P s = true ∧ (g = true → ∃ k', Value.isI k' x.val) ∧ K (.c (.v (.int k (k.wrap (Value.I x.val)))))
  | none => False
theorem intT_spec {t : TypeId} {k : IntKind} (h : intT P t = some k) : P.underlying t = some (.int k) := by
  unfold intT at h
  split at h
  · rename_i hu; simp only [Option.some.injEq] at h; rw [hu, h]
  · cases h
theorem vconv_sound {s d : TypeId} {x : SV} {K : SV → Prop} (h : vconv P g s d x K) :
    ∃ sv, K sv ∧ sv.lt st.nx = true ∧ (g = true → RunsTo P W0 h0 st (fun ρ => convert s d (x.conc ρ)) (fun ρ => sv.conc ρ)) := by
  unfold vconv at h
  split at h
  · rename_i k hk
    have hu := intT_spec hk
    obtain ⟨hs, h1, h2⟩ := h
    refine ⟨_, h2, rfl, fun hgt => RunsTo.mk fun ρ W hW => ?_⟩
    obtain ⟨k', hk'⟩ := h1 hgt
    rw [isI_conc (ρ := ρ) hk']
    obtain ⟨ds, hds⟩ := Option.isSome_iff_exists.1 hs
    simp [convert, run_underlying hu, run_underlying hds, Conv.intToInt]
  · cases h

def vextract (g : Bool) (x : SV) (i : Nat) (K : SV → Prop) : Prop :=
  (g = true → Value.isT i x.val) ∧ K (.of ((Value.T x.val).getD i undef))
theorem vextract_sound {x : SV} {i : Nat} {K : SV → Prop} (h : vextract g x i K) :
    ∃ sv, K sv ∧ sv.lt st.nx = true ∧ (g = true → RunsTo P W0 h0 st (fun ρ => Instr.extract (x.conc ρ) i) (fun ρ => sv.conc ρ)) := by
  refine ⟨_, h.2, SV.of_lt _ _, fun hgt => RunsTo.mk fun ρ W hW => ?_⟩
  obtain ⟨vs, h1, h2⟩ := isT_conc (ρ := ρ) (h.1 hgt)
  simp [h1, Instr.extract, h2, SV.conc_of]

def isFn : Value → Prop
  | .func (.func _) _ _ => True
  | _ => False
def vnil (g : Bool) (x : SV) (K : SV → Prop) : Prop :=
  match x with
  | .c (.p r o) => K (.c (.p r o))
  | .c (.v y) => (g = true → Value.isP y ∨ isFn y) ∧ K (.c (.v y))
  | _ => False

def vslice (P : Program) (g : Bool) (t : TypeId) (x : SV) (lo hi : Option SV) (K : SV → Prop) : Prop :=
  match x with
  | .c (.v y) => match elemT P t with
    | some e =>
      hasT P e = true ∧ (g = true → Value.isA y ∧ (∀ l, lo = some l → ∃ k, Value.isI k l.val) ∧ (∀ u, hi = some u → ∃ k, Value.isI k u.val) ∧
        0 ≤ (lo.map (Value.I ·.val)).getD 0 ∧ (lo.map (Value.I ·.val)).getD 0 ≤ (hi.map (Value.I ·.val)).getD (Value.L y) ∧
        (hi.map (Value.I ·.val)).getD (Value.L y) ≤ (if hi.isSome then Value.C y else Value.L y)) ∧
      K (.c (.v (.slice (if Value.C y = ((lo.map (Value.I ·.val)).getD 0).toNat then Value.A y else (Value.A y).map (·.add (((lo.map (Value.I ·.val)).getD 0).toNat * szT P e)))
        (((hi.map (Value.I ·.val)).getD (Value.L y)).toNat - ((lo.map (Value.I ·.val)).getD 0).toNat) (Value.C y - ((lo.map (Value.I ·.val)).getD 0).toNat))))
    | none => strT P t = true ∧ (g = true → Value.isS y ∧ (∀ l, lo = some l → ∃ k, Value.isI k l.val) ∧ (∀ u, hi = some u → ∃ k, Value.isI k u.val) ∧
        0 ≤ (lo.map (Value.I ·.val)).getD 0 ∧ (lo.map (Value.I ·.val)).getD 0 ≤ (hi.map (Value.I ·.val)).getD (Value.S y).size ∧
        (hi.map (Value.I ·.val)).getD (Value.S y).size ≤ (Value.S y).size) ∧
      K (.c (.v (.string ((Value.S y).extract ((lo.map (Value.I ·.val)).getD 0).toNat (((hi.map (Value.I ·.val)).getD (Value.S y).size).toNat)))))
  | _ => False

theorem run_sliceBound {k : IntKind} {i : Int} {y : Nat} {code : BoundsCode} {W : World} (h0 : 0 ≤ i) (h1 : i ≤ y) : (Instr.sliceBound (.int k i) y code).run P W = .ok i.toNat W := by
  simp [Instr.sliceBound, asIntOf, h0, h1]

theorem vslice_sound {t : TypeId} {x : SV} {lo hi : Option SV} {K : SV → Prop} (h : vslice P g t x lo hi K) :
    ∃ sv, K sv ∧ sv.lt st.nx = true ∧ (g = true → RunsTo P W0 h0 st (fun ρ => Instr.sliceAt t (x.conc ρ) (lo.map (·.conc ρ)) (hi.map (·.conc ρ)) none) (fun ρ => sv.conc ρ)) := by
  unfold vslice at h
  split at h
  · rename_i y
    split at h
    · rename_i e he
      have hu := elemT_spec he
      obtain ⟨hT, hb, h⟩ := h
      refine ⟨_, h, rfl, fun hgt => RunsTo.mk fun ρ W hW => ?_⟩
      obtain ⟨hA, hl, hh, b0, b1, b2⟩ := hb hgt
      have hy := isA_eq hA
      rw [conc_c, conc_v]
      conv => lhs; rw [hy]
      cases lo with
      | none =>
        cases hi with
        | none =>
          simp [Instr.sliceAt, Instr.slice, run_underlying hu, Instr.sliceBounds, run_sizeOf hT]
        | some u =>
          obtain ⟨k, hk⟩ := hh u rfl
          simp only [Option.map_some, Option.getD_some, Option.isSome_some, if_true, Option.map_none, Option.getD_none] at b0 b1 b2
          simp [Instr.sliceAt, Instr.slice, run_underlying hu, Instr.sliceBounds, run_sizeOf hT, show u.conc ρ = .int k (Value.I u.val) from isI_conc hk, run_sliceBound (P := P) (W := W) (k := k) (i := Value.I u.val) (y := Value.C y) (by omega) (by omega)]
      | some l =>
        obtain ⟨k, hk⟩ := hl l rfl
        cases hi with
        | none =>
          simp only [Option.map_some, Option.getD_some, Option.isSome_none, Option.map_none, Option.getD_none, Bool.false_eq_true, if_false] at b0 b1 b2
          simp [Instr.sliceAt, Instr.slice, run_underlying hu, Instr.sliceBounds, run_sizeOf hT, show l.conc ρ = .int k (Value.I l.val) from isI_conc hk, run_sliceBound (P := P) (W := W) (k := k) (i := Value.I l.val) (y := Value.L y) (by omega) (by omega)]
        | some u =>
          obtain ⟨k', hk'⟩ := hh u rfl
          simp only [Option.map_some, Option.getD_some, Option.isSome_some, if_true] at b0 b1 b2
          simp [Instr.sliceAt, Instr.slice, run_underlying hu, Instr.sliceBounds, run_sizeOf hT, show l.conc ρ = .int k (Value.I l.val) from isI_conc hk, show u.conc ρ = .int k' (Value.I u.val) from isI_conc hk',
            run_sliceBound (P := P) (W := W) (k := k') (i := Value.I u.val) (y := Value.C y) (by omega) (by omega), run_sliceBound (P := P) (W := W) (k := k) (i := Value.I l.val) (y := (Value.I u.val).toNat) (by omega) (by omega)]
    · obtain ⟨hs, hb, h⟩ := h
      have hu := strT_spec hs
      refine ⟨_, h, rfl, fun hgt => RunsTo.mk fun ρ W hW => ?_⟩
      obtain ⟨hS, hl, hh, b0, b1, b2⟩ := hb hgt
      have hy := isS_eq hS
      rw [conc_c, conc_v]
      conv => lhs; rw [hy]
      cases lo with
      | none =>
        cases hi with
        | none =>
          simp [Instr.sliceAt, Instr.slice, run_underlying hu, Instr.sliceBounds]
        | some u =>
          obtain ⟨k, hk⟩ := hh u rfl
          simp only [Option.map_some, Option.getD_some, Option.map_none, Option.getD_none] at b0 b1 b2
          simp [Instr.sliceAt, Instr.slice, run_underlying hu, Instr.sliceBounds, show u.conc ρ = .int k (Value.I u.val) from isI_conc hk, run_sliceBound (P := P) (W := W) (k := k) (i := Value.I u.val) (y := (Value.S y).size) (by omega) (by omega)]
      | some l =>
        obtain ⟨k, hk⟩ := hl l rfl
        cases hi with
        | none =>
          simp only [Option.map_some, Option.getD_some, Option.map_none, Option.getD_none] at b0 b1 b2
          simp [Instr.sliceAt, Instr.slice, run_underlying hu, Instr.sliceBounds, show l.conc ρ = .int k (Value.I l.val) from isI_conc hk, run_sliceBound (P := P) (W := W) (k := k) (i := Value.I l.val) (y := (Value.S y).size) (by omega) (by omega)]
        | some u =>
          obtain ⟨k', hk'⟩ := hh u rfl
          simp only [Option.map_some, Option.getD_some] at b0 b1 b2
          simp [Instr.sliceAt, Instr.slice, run_underlying hu, Instr.sliceBounds, show l.conc ρ = .int k (Value.I l.val) from isI_conc hk, show u.conc ρ = .int k' (Value.I u.val) from isI_conc hk',
            run_sliceBound (P := P) (W := W) (k := k') (i := Value.I u.val) (y := (Value.S y).size) (by omega) (by omega), run_sliceBound (P := P) (W := W) (k := k) (i := Value.I l.val) (y := (Value.I u.val).toNat) (by omega) (by omega)]
  · cases h

end
end Go.SL
