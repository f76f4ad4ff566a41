/- Plain theorems about the model: a symbolic state, its evaluation and its soundness. No condition; nothing of the program is named. -/
import Derived.Test.YtfbdafdbinbeaaaSL5
set_option linter.unusedVariables false
set_option linter.unusedSimpArgs false
namespace Go.SL
open Go Go.RowKit

/-! ### the quiet operations, all of them -/
def vbuiltin (P : Program) (st : St) (g : Bool) (b : Builtin) (ts : List TypeId) (xs : List Operand) (K : SV → Prop) : Prop :=
  match b, ts with
  | .len, [t] => getOs st g xs fun vs => match vs with
    | [x] => vlen P st g t x K
    | _ => False
  | .max, t :: _ => getOs st g xs fun vs => vfold P g max t vs K
  | .min, t :: _ => getOs st g xs fun vs => vfold P g min t vs K
  | _, _ => False

def optO (st : St) (g : Bool) (x : Option Operand) (K : Option SV → Prop) : Prop :=
  match x with
  | none => K none
  | some x => getO st g x fun v => K (some v)

def vpick (st : St) (g : Bool) (c a b : Operand) (K : SV → Prop) : Prop :=
  getO st g c fun vc => (g = true → Value.isB vc.val) ∧
    getO st (g && Value.B vc.val) a fun va => (g = true → Value.B vc.val = true → Value.isB va.val) ∧
      getO st (g && !Value.B vc.val) b fun vb => (g = true → Value.B vc.val = false → Value.isB vb.val) ∧
        K (.c (.v (.bool (bif Value.B vc.val then Value.B va.val else Value.B vb.val))))

def vq (P : Program) (st : St) (g : Bool) (op : Op) (K : SV → Prop) : Prop :=
  match op with
  | .move x => getO st g x K
  | .assign x => getO st g x K
  | .pick c a b => vpick st g c a b K
  | .load t x => getO st g x fun v => vload P st g t v K
  | .nilCheck x => getO st g x fun v => vnil g v K
  | .binOp op t x y _ => getO st g x fun a => getO st g y fun b => vbin P g op t a b fun v => K (.c (.v v))
  | .unOp op _ x => getO st g x fun v => vun g op v K
  | .convert s d x => getO st g x fun v => vconv P g s d v K
  | .fieldAddr t x f => getO st g x fun v => vfieldAddr P g t v f K
  | .field t x f => getO st g x fun v => vfield P g t v f K
  | .indexAddr t x i => getO st g x fun v => getO st g i fun j => vindexAddr P st g t v j K
  | .index t x i => getO st g x fun v => getO st g i fun j => vindex P g t v j K
  | .extract x i => getO st g x fun v => vextract g v i K
  | .slice t x lo hi none => getO st g x fun v => optO st g lo fun l => optO st g hi fun u => vslice P g t v l u K
  | .build t ps => getOs st g (ps.toList.map (·.2)) fun vs => (g = true) ∧ vbuild P t ((ps.toList.map (·.1)).zip vs) K
  | .call c => match c.callee with
    | .builtin b => vbuiltin P st g b c.argTypes.toList c.args.toList K
    | _ => False
  | _ => False

section
variable {P : Program} {W0 : Base} {h0 : Hp} {N : Nat} {st : St} {g : Bool}

/-- Whatever fits the state: the operation yields the value and leaves the world. -/
def Yv (P : Program) (W0 : Base) (h0 : Hp) (N : Nat) (st : St) (o : Oper) (sv : SV) : Prop :=
  ∀ ρ a W, FOk N ρ st.e a → WOk W0 h0 ρ st.p st.h W → (execOp a.eval o).run P W = .ok (.value (sv.conc ρ)) W

theorem optO_sound {x : Option Operand} {K : Option SV → Prop} (hw : st.wf = true) (h : optO st g x K) :
    ∃ v, K v ∧ (g = true → ∀ ρ a, FOk N ρ st.e a → x.map a.eval = v.map (·.conc ρ)) := by
  cases x with
  | none => exact ⟨none, h, fun _ _ _ _ => rfl⟩
  | some x =>
    obtain ⟨sv, h1, _, h3⟩ := getO_sound (N := N) (x := x) (g := g) (K := fun v => K (some v)) hw h
    exact ⟨some sv, h1, fun hg ρ a hf => by simp [h3 hg ρ a hf]⟩

theorem run_value {S : Sem Value} {v : Value} {W : World} (h : S.run P W = .ok v W) : (do pure (Next.value (← S)) : Sem Next).run P W = .ok (.value v) W := by
  simp [Sem.run_bind, h]

theorem vq_sound {o : Oper} {K : SV → Prop} (hw : st.wf = true) (h : vq P st g o.op K) :
    ∃ sv, K sv ∧ sv.lt st.nx = true ∧ (g = true → Yv P W0 h0 N st o sv) := by
  obtain ⟨dst, op, type, pos, after, guard⟩ := o
  cases op <;> simp only [vq] at h <;> first | exact h.elim | skip
  case move x =>
    obtain ⟨sv, h1, h2, h3⟩ := getO_sound (N := N) hw h
    exact ⟨sv, h1, h2, fun hg ρ a W hf _ => by simp [execOp, h3 hg ρ a hf]⟩
  case assign x =>
    obtain ⟨sv, h1, h2, h3⟩ := getO_sound (N := N) hw h
    exact ⟨sv, h1, h2, fun hg ρ a W hf _ => by simp [execOp, h3 hg ρ a hf]⟩
  case pick c x y =>
    unfold vpick at h
    obtain ⟨vc, h, _, hc⟩ := getO_sound (N := N) hw h
    obtain ⟨bc, h⟩ := h
    obtain ⟨va, h, _, ha⟩ := getO_sound (N := N) hw h
    obtain ⟨ba, h⟩ := h
    obtain ⟨vb, h, _, hb⟩ := getO_sound (N := N) hw h
    obtain ⟨bb, h⟩ := h
    refine ⟨_, h, rfl, fun hg ρ a W hf _ => ?_⟩
    cases hv : Value.B vc.val with
    | true =>
      simp [execOp, hc hg ρ a hf, isB_conc (ρ := ρ) (bc hg), hv, asBool, ha (by simp [hg, hv]) ρ a hf, isB_conc (ρ := ρ) (ba hg hv)]
    | false =>
      simp [execOp, hc hg ρ a hf, isB_conc (ρ := ρ) (bc hg), hv, asBool, hb (by simp [hg, hv]) ρ a hf, isB_conc (ρ := ρ) (bb hg hv)]
  case load t x =>
    obtain ⟨v, h, _, hx⟩ := getO_sound (N := N) hw h
    obtain ⟨sv, h1, h2, h3⟩ := vload_sound (W0 := W0) (h0 := h0) hw h
    exact ⟨sv, h1, h2, fun hg ρ a W hf hW => by simp only [execOp, hx hg ρ a hf]; exact run_value (h3 hg ρ W hW)⟩
  case nilCheck x =>
    obtain ⟨v, h, hl, hx⟩ := getO_sound (N := N) hw h
    unfold vnil at h
    split at h
    · rename_i r o
      exact ⟨_, h, hl, fun hg ρ a W hf hW => by simp [execOp, hx hg ρ a hf]⟩
    · rename_i y
      refine ⟨_, h.2, rfl, fun hg ρ a W hf hW => ?_⟩
      simp only [execOp, hx hg ρ a hf, conc_c, conc_v]
      rcases h.1 hg with hp | hp
      · obtain ⟨ad, rfl, _⟩ := isP_eq hp; rfl
      · unfold isFn at hp
        split at hp
        · rfl
        · exact hp.elim
    · exact h.elim
  case binOp op t x y yt =>
    obtain ⟨a1, h, _, hx⟩ := getO_sound (N := N) hw h
    obtain ⟨b1, h, _, hy⟩ := getO_sound (N := N) hw h
    obtain ⟨v, h1, hn, h3⟩ := vbin_sound h
    refine ⟨_, h1, rfl, fun hg ρ a W hf hW => ?_⟩
    simp only [execOp, hx hg ρ a hf, hy hg ρ a hf]
    exact run_value (h3 hg ρ W x y)
  case unOp op t x =>
    obtain ⟨v, h, _, hx⟩ := getO_sound (N := N) hw h
    obtain ⟨sv, h1, h2, h3⟩ := vun_sound (P := P) (W0 := W0) (h0 := h0) (st := st) h
    exact ⟨sv, h1, h2, fun hg ρ a W hf hW => by simp only [execOp, hx hg ρ a hf]; exact run_value (h3 hg ρ W hW)⟩
  case convert s d x =>
    obtain ⟨v, h, _, hx⟩ := getO_sound (N := N) hw h
    obtain ⟨sv, h1, h2, h3⟩ := vconv_sound (P := P) (W0 := W0) (h0 := h0) (st := st) h
    exact ⟨sv, h1, h2, fun hg ρ a W hf hW => by simp only [execOp, hx hg ρ a hf]; exact run_value (h3 hg ρ W hW)⟩
  case fieldAddr t x f =>
    obtain ⟨v, h, hl, hx⟩ := getO_sound (N := N) hw h
    obtain ⟨sv, h1, h2, h3⟩ := vfieldAddr_sound (P := P) (W0 := W0) (h0 := h0) (st := st) hl h
    exact ⟨sv, h1, h2, fun hg ρ a W hf hW => by simp only [execOp, hx hg ρ a hf]; exact run_value (h3 hg ρ W hW)⟩
  case field t x f =>
    obtain ⟨v, h, hl, hx⟩ := getO_sound (N := N) hw h
    obtain ⟨sv, h1, h2, h3⟩ := vfield_sound (P := P) (W0 := W0) (h0 := h0) (st := st) hl h
    exact ⟨sv, h1, h2, fun hg ρ a W hf hW => by simp only [execOp, hx hg ρ a hf]; exact run_value (h3 hg ρ W hW)⟩
  case indexAddr t x i =>
    obtain ⟨v, h, hl, hx⟩ := getO_sound (N := N) hw h
    obtain ⟨j, h, _, hi⟩ := getO_sound (N := N) hw h
    obtain ⟨sv, h1, h2, h3⟩ := vindexAddr_sound (P := P) (W0 := W0) (h0 := h0) (st := st) hl h
    exact ⟨sv, h1, h2, fun hg ρ a W hf hW => by simp only [execOp, hx hg ρ a hf, hi hg ρ a hf]; exact run_value (h3 hg ρ W hW)⟩
  case index t x i =>
    obtain ⟨v, h, hl, hx⟩ := getO_sound (N := N) hw h
    obtain ⟨j, h, _, hi⟩ := getO_sound (N := N) hw h
    obtain ⟨sv, h1, h2, h3⟩ := vindex_sound (P := P) (W0 := W0) (h0 := h0) (st := st) hl h
    exact ⟨sv, h1, h2, fun hg ρ a W hf hW => by simp only [execOp, hx hg ρ a hf, hi hg ρ a hf]; exact run_value (h3 hg ρ W hW)⟩
  case extract x i =>
    obtain ⟨v, h, _, hx⟩ := getO_sound (N := N) hw h
    obtain ⟨sv, h1, h2, h3⟩ := vextract_sound (P := P) (W0 := W0) (h0 := h0) (st := st) h
    exact ⟨sv, h1, h2, fun hg ρ a W hf hW => by simp only [execOp, hx hg ρ a hf]; exact run_value (h3 hg ρ W hW)⟩
  case slice t x lo hi mx =>
    cases mx <;> simp only at h <;> first | exact h.elim | skip
    obtain ⟨v, h, _, hx⟩ := getO_sound (N := N) hw h
    obtain ⟨l, h, hl⟩ := optO_sound (N := N) hw h
    obtain ⟨u, h, hu⟩ := optO_sound (N := N) hw h
    obtain ⟨sv, h1, h2, h3⟩ := vslice_sound (P := P) (W0 := W0) (h0 := h0) (st := st) h
    exact ⟨sv, h1, h2, fun hg ρ a W hf hW => by simp only [execOp, hx hg ρ a hf, hl hg ρ a hf, hu hg ρ a hf, Option.map_none]; exact run_value (h3 hg ρ W hW)⟩
  case build t ps =>
    obtain ⟨vs, h, hlen, hl, hx⟩ := getOs_sound (N := N) hw h
    obtain ⟨hg, h⟩ := h
    obtain ⟨sv, h1, h2, h3⟩ := vbuild_sound (P := P) (W0 := W0) (h0 := h0) (st := st) (fun x hx => hl _ (List.of_mem_zip hx).2) h
    refine ⟨sv, h1, h2, fun hg ρ a W hf hW => ?_⟩
    have e : (ps.map fun (i, x) => (i, a.eval x)) = (((ps.toList.map (·.1)).zip vs).map fun x => (x.1, x.2.conc ρ)).toArray := by
      have hx := hx hg ρ a hf
      apply Array.toList_inj.1
      simp only [Array.toList_map]
      have : ∀ (l : List (Nat × Operand)) (vs : List SV), (l.map (·.2)).map a.eval = vs.map (·.conc ρ) → l.map (fun x => (x.1, a.eval x.2)) = ((l.map (·.1)).zip vs).map fun x => (x.1, x.2.conc ρ) := by
        intro l
        induction l with
        | nil => intro vs _; simp
        | cons y l ih =>
          intro vs hvs
          cases vs with
          | nil => simp at hvs
          | cons v vs =>
            simp only [List.map_cons, List.cons.injEq] at hvs
            simp only [List.map_cons, List.zip_cons_cons, hvs.1]
            rw [ih vs hvs.2]
      exact this ps.toList vs hx
    simp only [execOp, e]
    exact run_value (h3 ρ W hW)
  case call c =>
    obtain ⟨callee, args, ats⟩ := c
    cases callee <;> simp only at h <;> first | exact h.elim | skip
    case builtin b =>
      have run : ∀ (f : Array TypeId → TypeId → Array Value → Sem Value) (vs : List SV) (sv : SV) (ρ : Rho) (a : Act) (W : World), args.toList.map a.eval = vs.map (·.conc ρ) →
          (f ats type (vs.map (·.conc ρ)).toArray).run P W = .ok (sv.conc ρ) W → (f ats type (args.map a.eval)).run P W = .ok (sv.conc ρ) W := by
        intro f vs sv ρ a W hv hr
        have : args.map a.eval = (vs.map (·.conc ρ)).toArray := Array.toList_inj.1 (by rw [Array.toList_map, hv])
        rw [this]; exact hr
      unfold vbuiltin at h
      split at h
      · rename_i t hts
        obtain ⟨vs, h, _, _, hx⟩ := getOs_sound (N := N) hw h
        split at h
        · rename_i x
          obtain ⟨sv, h1, h2, h3⟩ := vlen_sound (P := P) (W0 := W0) (h0 := h0) (st := st) (ty := type) (ts := ats) h
          refine ⟨sv, h1, h2, fun hg ρ a W hf hW => ?_⟩
          have hat : ats = #[t] := Array.toList_inj.1 (by simpa using hts)
          show (do let d ← resolve a.eval ⟨_, args, ats⟩ type; invoke d.target d.args : Sem Next).run P W = _
          rw [Sem.run_bind]
          simp only [resolve, Sem.run_pure, Result.andThen_ok, invoke, builtin]
          have := run Builtin.len_ _ sv ρ a W (hx hg ρ a hf) (by rw [hat]; exact h3 hg ρ W hW)
          exact run_value this
        · exact h.elim
      · rename_i t ts hts
        obtain ⟨vs, h, _, _, hx⟩ := getOs_sound (N := N) hw h
        obtain ⟨sv, h1, h2, h3⟩ := vmax_sound (P := P) (W0 := W0) (h0 := h0) (st := st) (ty := type) (ts := ats) h
        refine ⟨sv, h1, h2, fun hg ρ a W hf hW => ?_⟩
        show (do let d ← resolve a.eval ⟨_, args, ats⟩ type; invoke d.target d.args : Sem Next).run P W = _
        rw [Sem.run_bind]
        simp only [resolve, Sem.run_pure, Result.andThen_ok, invoke, builtin]
        have := run Builtin.max_ _ sv ρ a W (hx hg ρ a hf) (h3 hg ρ W hW)
        exact run_value this
      · rename_i t ts hts
        obtain ⟨vs, h, _, _, hx⟩ := getOs_sound (N := N) hw h
        obtain ⟨sv, h1, h2, h3⟩ := vmin_sound (P := P) (W0 := W0) (h0 := h0) (st := st) (ty := type) (ts := ats) h
        refine ⟨sv, h1, h2, fun hg ρ a W hf hW => ?_⟩
        show (do let d ← resolve a.eval ⟨_, args, ats⟩ type; invoke d.target d.args : Sem Next).run P W = _
        rw [Sem.run_bind]
        simp only [resolve, Sem.run_pure, Result.andThen_ok, invoke, builtin]
        have := run Builtin.min_ _ sv ρ a W (hx hg ρ a hf) (h3 hg ρ W hW)
        exact run_value this
      · exact h.elim
end
end Go.SL
