/- Plain theorems about the model: a symbolic state, its evaluation and its soundness. No condition; nothing of the program is named. -/
import Derived.Test.YtfbdafdbinbeaaaSL1
set_option linter.unusedVariables false
set_option linter.unusedSimpArgs false
namespace Go.SL
open Go Go.RowKit

/-! ### reading plain values -/
def Value.I : Value → Int | .int _ n => n | _ => 0
def Value.isI (k : IntKind) : Value → Prop | .int k' _ => k' = k | _ => False
def Value.B : Value → Bool | .bool b => b | _ => false
def Value.isB : Value → Prop | .bool _ => True | _ => False
def Value.S : Value → ByteArray | .string s => s | _ => ByteArray.empty
def Value.isS : Value → Prop | .string _ => True | _ => False
def Value.P : Value → Option Addr | .pointer a => a | _ => none
def Value.isP : Value → Prop | .pointer (some _) => True | _ => False
def Value.A : Value → Option Addr | .slice a _ _ => a | _ => none
def Value.L : Value → Nat | .slice _ n _ => n | _ => 0
def Value.C : Value → Nat | .slice _ _ c => c | _ => 0
def Value.isA : Value → Prop | .slice _ _ _ => True | _ => False
def Value.T : Value → List Value | .tuple vs => vs.toList | _ => []
def Value.isT (n : Nat) : Value → Prop | .tuple vs => n < vs.size | _ => False

theorem isI_eq {k : IntKind} {v : Value} (h : Value.isI k v) : v = .int k (Value.I v) := by cases v <;> simp_all [Value.isI, Value.I]
theorem isB_eq {v : Value} (h : Value.isB v) : v = .bool (Value.B v) := by cases v <;> simp_all [Value.isB, Value.B]
theorem isS_eq {v : Value} (h : Value.isS v) : v = .string (Value.S v) := by cases v <;> simp_all [Value.isS, Value.S]
theorem isP_eq {v : Value} (h : Value.isP v) : ∃ a, v = .pointer (some a) ∧ Value.P v = some a := by
  cases v with
  | pointer a => cases a <;> simp_all [Value.isP, Value.P]
  | _ => cases h
theorem isA_eq {v : Value} (h : Value.isA v) : v = .slice (Value.A v) (Value.L v) (Value.C v) := by cases v <;> simp_all [Value.isA, Value.A, Value.L, Value.C]
theorem isT_eq {n : Nat} {v : Value} (h : Value.isT n v) : ∃ vs : Array Value, v = .tuple vs ∧ vs[n]? = some ((Value.T v).getD n undef) := by
  cases v with
  | tuple vs =>
    simp only [Value.isT] at h
    exact ⟨vs, rfl, by simp [Value.T, h]⟩
  | _ => cases h

/-- The plain value of a cell. -/
def SC.val : SC → Value | .v x => x | _ => undef
def SV.val : SV → Value | .c x => x.val | .g _ => undef
/-- The cells of a value. -/
def SV.cells : SV → List SC | .g cs => cs | .c (.v (.agg cs)) => cs.toList.map .v | .c x => [x]

theorem isI_conc {ρ : Rho} {k : IntKind} {x : SV} (h : Value.isI k x.val) : x.conc ρ = .int k (Value.I x.val) := by
  cases x with
  | c x => cases x with
    | v x => exact isI_eq h
    | _ => cases h
  | g => cases h
theorem isB_conc {ρ : Rho} {x : SV} (h : Value.isB x.val) : x.conc ρ = .bool (Value.B x.val) := by
  cases x with
  | c x => cases x with
    | v x => exact isB_eq h
    | _ => cases h
  | g => cases h
theorem isS_conc {ρ : Rho} {x : SV} (h : Value.isS x.val) : x.conc ρ = .string (Value.S x.val) := by
  cases x with
  | c x => cases x with
    | v x => exact isS_eq h
    | _ => cases h
  | g => cases h
theorem isA_conc {ρ : Rho} {x : SV} (h : Value.isA x.val) : x.conc ρ = .slice (Value.A x.val) (Value.L x.val) (Value.C x.val) := by
  cases x with
  | c x => cases x with
    | v x => exact isA_eq h
    | _ => cases h
  | g => cases h
theorem isP_conc {ρ : Rho} {x : SV} (h : Value.isP x.val) : ∃ a, x.conc ρ = .pointer (some a) ∧ Value.P x.val = some a := by
  cases x with
  | c x => cases x with
    | v x => exact isP_eq h
    | _ => cases h
  | g => cases h
theorem isT_conc {ρ : Rho} {n : Nat} {x : SV} (h : Value.isT n x.val) : ∃ vs : Array Value, x.conc ρ = .tuple vs ∧ vs[n]? = some ((Value.T x.val).getD n undef) := by
  cases x with
  | c x => cases x with
    | v x => exact isT_eq h
    | _ => cases h
  | g => cases h

theorem SV.of_lt (n : Nat) (v : Value) : (SV.of v).lt n = true := by
  unfold SV.of
  split <;> simp [SV.lt, SC.lt]
theorem SV.cells_conc (ρ : Rho) (x : SV) : (x.conc ρ).cells = (x.cells.map (·.conc ρ)).toArray ∨ ∃ r, x = .c (.s r) := by
  cases x with
  | c x => cases x with
    | v x =>
      left
      cases x <;> simp [SV.conc, SC.conc, SV.cells, Value.cells, List.map_map, Function.comp_def]
    | p r o => left; simp [SV.conc, SC.conc, SV.cells, Value.cells]
    | s r => exact .inr ⟨r, rfl⟩
  | g cs => left; simp [SV.conc, SV.cells, Value.cells]
theorem SV.cells_lt {n : Nat} {x : SV} (h : x.lt n = true) : ∀ y ∈ x.cells, y.lt n = true := by
  cases x with
  | c x => cases x with
    | v x => cases x <;> simp [SV.cells, SC.lt]
    | _ => simpa [SV.cells, SV.lt] using h
  | g cs => simpa [SV.cells, SV.lt] using h

/-! ### operands -/
def getO (st : St) (g : Bool) (x : Operand) (K : SV → Prop) : Prop :=
  match x with
  | .const v => K (.of v)
  | .tmp t => match look t st.e with
    | some (c, sv) => (g = true → c = true) ∧ K sv
    | none => False
  | .func f => K (.c (.v (.func (.func f) #[] #[])))
  | .global _ => False

section
variable {P : Program} {W0 : Base} {h0 : Hp} {N : Nat} {st : St} {g : Bool} {ρ : Rho} {a : Act} {W : World}

theorem getO_sound {x : Operand} {K : SV → Prop} (hw : st.wf = true) (h : getO st g x K) :
    ∃ sv, K sv ∧ sv.lt st.nx = true ∧ (g = true → ∀ ρ a, FOk N ρ st.e a → a.eval x = sv.conc ρ) := by
  cases x with
  | const v => exact ⟨_, h, SV.of_lt _ _, fun _ ρ a _ => (SV.conc_of ρ v).symm⟩
  | tmp t =>
    simp only [getO] at h
    split at h
    · rename_i c sv hl
      refine ⟨sv, h.2, ?_, fun hg ρ a hf => ?_⟩
      · simp only [St.wf, Bool.and_eq_true] at hw
        exact look_lt hw.1 hl
      · have := hf.2.2 t c sv hl
        simp [Act.eval, Array.getD_eq_getD_getElem?, this, h.1 hg]
    · cases h
  | func f => exact ⟨_, h, rfl, fun _ ρ a _ => rfl⟩
  | global g => cases h

def getOs (st : St) (g : Bool) : List Operand → (List SV → Prop) → Prop
  | [], K => K []
  | x :: xs, K => getO st g x fun v => getOs st g xs fun vs => K (v :: vs)
theorem getOs_sound {xs : List Operand} : ∀ {K : List SV → Prop}, st.wf = true → getOs st g xs K →
    ∃ svs, K svs ∧ svs.length = xs.length ∧ (∀ sv ∈ svs, sv.lt st.nx = true) ∧ (g = true → ∀ ρ a, FOk N ρ st.e a → xs.map a.eval = svs.map (·.conc ρ)) := by
  induction xs with
  | nil => intro K _ h; exact ⟨[], h, rfl, by simp, fun _ _ _ _ => rfl⟩
  | cons x xs ih =>
    intro K hw h
    obtain ⟨v, h1, l1, e1⟩ := getO_sound (N := N) hw h
    obtain ⟨vs, h2, l2, m2, e2⟩ := ih hw h1
    refine ⟨v :: vs, h2, by simp [l2], by simpa using ⟨l1, m2⟩, fun hg ρ a hf => ?_⟩
    simp [e1 hg ρ a hf, e2 hg ρ a hf]
end

/-! ### the quiet operations -/

def vbits (op : BinOp) (k : IntKind) (a b : Int) : Int :=
  match op with
  | .and => k.wrap (BitVec.ofInt k.bits a &&& BitVec.ofInt k.bits b).toNat
  | .or => k.wrap (BitVec.ofInt k.bits a ||| BitVec.ofInt k.bits b).toNat
  | .xor => k.wrap (BitVec.ofInt k.bits a ^^^ BitVec.ofInt k.bits b).toNat
  | _ => k.wrap (BitVec.ofInt k.bits a &&& ~~~(BitVec.ofInt k.bits b)).toNat

def intBin (g : Bool) (op : BinOp) (k : IntKind) (a b : Int) (K : Value → Prop) : Prop :=
  match op with
  | .add => K (.int k (k.wrap (a + b)))
  | .sub => K (.int k (k.wrap (a - b)))
  | .mul => K (.int k (k.wrap (a * b)))
  | .quo => (g = true → b ≠ 0) ∧ K (.int k (k.wrap (a.tdiv b)))
  | .rem => (g = true → b ≠ 0) ∧ K (.int k (a.tmod b))
  | .and | .or | .xor | .andNot => K (.int k (vbits op k a b))
  | .eql => K (.bool (a == b))
  | .neq => K (.bool (a != b))
  | .lss => K (.bool (decide (a < b)))
  | .leq => K (.bool (decide (a ≤ b)))
  | .gtr => K (.bool (decide (b < a)))
  | .geq => K (.bool (decide (b ≤ a)))
  | _ => False

theorem intBin_sound {P : Program} {g : Bool} {op : BinOp} {k : IntKind} {a b : Int} {K : Value → Prop} (h : intBin g op k a b K) :
    ∃ v, K v ∧ (∀ x, v ≠ .agg x) ∧ (g = true → ∀ t W, (binOp op t (.int k a) (.int k b)).run P W = .ok v W) := by
  cases op <;> simp only [intBin] at h <;> first
    | exact ⟨_, h, by simp, fun _ t W => by simp [binOp, Op.intArith, Op.intCmp, Op.intBits, vbits]⟩
    | exact ⟨_, h.2, by simp, fun hg t W => by simp [binOp, Op.intDiv, h.1 hg]⟩
    | exact h.elim

/-- x == y of struct values whose cells are plain. -/
def veq : Value → Value → Bool
  | .int _ a, .int _ b => a == b
  | .bool a, .bool b => a == b
  | .string a, .string b => a.toList == b.toList
  | _, _ => false
def veqs : List Value → List Value → Bool
  | [], [] => true
  | a :: as, b :: bs => veq a b && veqs as bs
  | _, _ => false
def leafOk (P : Program) (t : TypeId) (v : Value) : Prop :=
  match P.underlying t with
  | some (.int k) => Value.isI k v
  | some .bool => Value.isB v
  | some .string => Value.isS v
  | _ => False
def leafsOk (P : Program) : Nat → List Field → List Value → Prop
  | _, [], [] => True
  | i, f :: fs, v :: vs => f.offset = i ∧ f.name ≠ "_" ∧ leafOk P f.type v ∧ leafsOk P (i + 1) fs vs
  | _, _, _ => False

def isShift : BinOp → Bool
  | .shl => true
  | .shr => true
  | _ => false
def shiftBin (op : BinOp) (k : IntKind) (a b : Int) (K : Value → Prop) : Prop :=
  match op with
  | .shl => K (.int k (k.wrap (a * 2 ^ (min b.toNat k.bits))))
  | .shr => K (.int k (a.fdiv (2 ^ (min b.toNat k.bits))))
  | _ => False
def boolBin (op : BinOp) (a b : Bool) (K : Value → Prop) : Prop :=
  match op with
  | .eql => K (.bool (a == b))
  | .neq => K (.bool (!(a == b)))
  | _ => False
def strBin (g : Bool) (op : BinOp) (a b : ByteArray) (K : Value → Prop) : Prop :=
  match op with
  | .eql => K (.bool (a.toList == b.toList))
  | .neq => K (.bool (!(a.toList == b.toList)))
  | .add => (g = true → a.size + b.size ≤ 9223372036854775807) ∧ K (.string (a ++ b))
  | _ => False
def strucBin (op : BinOp) (a b : List Value) (K : Value → Prop) : Prop :=
  match op with
  | .eql => K (.bool (veqs a b))
  | .neq => K (.bool (!veqs a b))
  | _ => False
def vbinT (P : Program) (g : Bool) (op : BinOp) (t : TypeId) (x y : SV) (K : Value → Prop) : TypeDesc → Prop
  | .int k => if isShift op = true then (g = true → Value.isI k x.val ∧ (∃ k', Value.isI k' y.val) ∧ 0 ≤ Value.I y.val) ∧ shiftBin op k (Value.I x.val) (Value.I y.val) K
    else (g = true → Value.isI k x.val ∧ Value.isI k y.val) ∧ intBin g op k (Value.I x.val) (Value.I y.val) K
  | .bool => (g = true → Value.isB x.val ∧ Value.isB y.val) ∧ boolBin op (Value.B x.val) (Value.B y.val) K
  | .string => (g = true → Value.isS x.val ∧ Value.isS y.val) ∧ strBin g op (Value.S x.val) (Value.S y.val) K
  | .struct fs => P.stoodInHeld t = false ∧ P.eqGuardType P.depth t = false ∧ fs.toList.length ≠ 1 ∧
      (g = true → leafsOk P 0 fs.toList (x.cells.map (·.val)) ∧ leafsOk P 0 fs.toList (y.cells.map (·.val))) ∧ strucBin op (x.cells.map (·.val)) (y.cells.map (·.val)) K
  | _ => False
def vbin (P : Program) (g : Bool) (op : BinOp) (t : TypeId) (x y : SV) (K : Value → Prop) : Prop :=
  vbinT P g op t x y K ((P.underlying t).getD .invalid)

theorem leaf_not_agg {P : Program} {t : TypeId} {v : Value} (h : leafOk P t v) : ∀ x, v ≠ .agg x := by
  intro x e
  subst e
  unfold leafOk at h
  split at h <;> simp_all [Value.isI, Value.isB, Value.isS]

theorem run_leafEq {P : Program} {W : World} {d : Nat} {t : TypeId} {a b : Value} (ha : leafOk P t a) (hb : leafOk P t b) :
    (Op.equalIn (d + 1) t a b).run P W = .ok (veq a b) W := by
  unfold leafOk at ha hb
  split at ha
  · rename_i k hu
    simp only [hu] at hb
    rw [isI_eq ha, isI_eq hb, run_equalIn_int (h := hu)]; rfl
  · rename_i hu
    simp only [hu] at hb
    rw [isB_eq ha, isB_eq hb, run_equalIn_bool' (h := hu)]; rfl
  · rename_i hu
    simp only [hu] at hb
    rw [isS_eq ha, isS_eq hb, run_equalIn_string (h := hu)]; rfl
  · cases ha

theorem run_leafPart {P : Program} {W : World} {t : TypeId} {v : Value} {cs : Array Value} {o : Nat} (h : leafOk P t v) (hc : cs[o]? = some v) :
    (part t cs o).run P W = .ok v W := by
  unfold leafOk at h
  have hagg : (isAgg t).run P W = .ok false W := by
    split at h <;> rename_i hu <;> first | cases h | simp [isAgg, run_underlying hu]
  simp [part, hagg, hc]

theorem run_eqFields_leaf {P : Program} {W : World} {d : Nat} : ∀ (fs : List Field) (i : Nat) (xs ys : List Value) (X Y : Array Value), leafsOk P i fs xs → leafsOk P i fs ys →
    (∀ j, xs[j]? = X[i + j]?) → (∀ j, ys[j]? = Y[i + j]?) → (Op.eqFields (d + 1) X Y fs).run P W = .ok (veqs xs ys) W
  | [], i, [], [], X, Y, _, _, _, _ => by simp [Op.eqFields, veqs]
  | [], i, _ :: _, _, X, Y, h, _, _, _ => by simp [leafsOk] at h
  | [], i, [], _ :: _, X, Y, _, h, _, _ => by simp [leafsOk] at h
  | f :: fs, i, [], _, X, Y, h, _, _, _ => by simp [leafsOk] at h
  | f :: fs, i, _ :: _, [], X, Y, _, h, _, _ => by simp [leafsOk] at h
  | f :: fs, i, x :: xs, y :: ys, X, Y, hx, hy, hX, hY => by
    obtain ⟨o1, n1, l1, r1⟩ := hx
    obtain ⟨o2, n2, l2, r2⟩ := hy
    have p1 := run_leafPart (W := W) (cs := X) (o := f.offset) l1 (by rw [o1]; have := hX 0; simpa using this.symm)
    have p2 := run_leafPart (W := W) (cs := Y) (o := f.offset) l2 (by rw [o1]; have := hY 0; simpa using this.symm)
    have ih := run_eqFields_leaf (W := W) (d := d) fs (i + 1) xs ys X Y r1 r2 (fun j => by have := hX (j + 1); simpa [Nat.add_assoc, Nat.add_comm 1 j] using this) (fun j => by have := hY (j + 1); simpa [Nat.add_assoc, Nat.add_comm 1 j] using this)
    simp only [Op.eqFields, n1, ne_eq, not_false_eq_true, if_true, Sem.run_bind, p1, p2, Result.andThen_ok, run_leafEq l1 l2, veqs]
    cases hv : veq x y
    · simp
    · simpa using ih

theorem leafs_plain {P : Program} {ρ : Rho} : ∀ (fs : List Field) (i : Nat) (cs : List SC), leafsOk P i fs (cs.map (·.val)) → cs.map (·.conc ρ) = cs.map (·.val)
  | [], _, [], _ => rfl
  | [], _, _ :: _, h => by simp [leafsOk] at h
  | _ :: _, _, [], h => by simp [leafsOk] at h
  | f :: fs, i, c :: cs, h => by
    simp only [List.map_cons, leafsOk] at h
    have ih := leafs_plain (ρ := ρ) fs (i + 1) cs h.2.2.2
    simp only [List.map_cons, ih]
    congr 1
    cases c with
    | v x => rfl
    | _ =>
      have := h.2.2.1
      simp [leafOk, SC.val, undef] at this
      split at this <;> simp_all [Value.isI, Value.isB, Value.isS]

theorem leafs_agg {P : Program} {ρ : Rho} {fs : List Field} {x : SV} (h : leafsOk P 0 fs (x.cells.map (·.val))) (h1 : ∀ r, x ≠ .c (.s r)) (hf : fs.length ≠ 1 ∨ (∃ cs, x = .g cs)) :
    x.conc ρ = .agg (x.cells.map (·.val)).toArray := by
  cases x with
  | g cs =>
    simp only [SV.cells] at h ⊢
    simp only [SV.conc, leafs_plain (ρ := ρ) fs 0 cs h]
  | c x =>
    rcases hf with hf | ⟨cs, hc⟩
    · cases x with
      | s r => exact (h1 r rfl).elim
      | p r o =>
        exfalso
        match fs, h with
        | [], h => simp [SV.cells, leafsOk] at h
        | [f], h => exact hf rfl
        | f :: g :: fs, h => simp [SV.cells, leafsOk] at h
      | v x =>
        cases x with
        | agg cs => simp [SV.cells, SV.conc, SC.conc, SC.val, List.map_map, Function.comp_def]
        | _ =>
          exfalso
          match fs, h with
          | [], h => simp [SV.cells, leafsOk] at h
          | [f], h => exact hf rfl
          | f :: g :: fs, h => simp [SV.cells, leafsOk] at h
    · cases hc

theorem run_eqGuard_off {P : Program} {W : World} {op : BinOp} {t : TypeId} {x y : Operand} {a b : Value} (h : (∀ xs, a ≠ .agg xs) ∧ a ≠ .nilIface ∨ P.eqGuardType P.depth t = false ∧ a ≠ .nilIface) :
    (eqGuard op t x y a b).run P W = .ok () W := by
  unfold eqGuard
  split <;> simp only [Bool.not_true, Bool.not_false, Bool.false_eq_true, if_false, if_true]
  · split
    · rcases h with h | h <;> exact (h.2 rfl).elim
    · rcases h with h | h
      · exact (h.1 _ rfl).elim
      · simp [Sem.run_bind, run_program, h.1]
    · rfl
  · split
    · rcases h with h | h <;> exact (h.2 rfl).elim
    · rcases h with h | h
      · exact (h.1 _ rfl).elim
      · simp [Sem.run_bind, run_program, h.1]
    · rfl
  · rfl

theorem vbin_sound {P : Program} {g : Bool} {op : BinOp} {t : TypeId} {x y : SV} {K : Value → Prop} (h : vbin P g op t x y K) :
    ∃ v, K v ∧ (∀ z, v ≠ .agg z) ∧ (g = true → ∀ ρ W xo yo, (do eqGuard op t xo yo (x.conc ρ) (y.conc ρ); binOp op t (x.conc ρ) (y.conc ρ) : Sem Value).run P W = .ok v W) := by
  unfold vbin at h
  cases hu : P.underlying t with
  | none => rw [hu] at h; exact h.elim
  | some d =>
  rw [hu] at h
  simp only [Option.getD_some] at h
  cases d <;> simp only [vbinT] at h <;> first | exact h.elim | skip
  case bool =>
    have e1 : ∀ a b W, (Op.equal t (.bool a) (.bool b)).run P W = .ok (a == b) W := fun a b W => run_equalIn_bool' W 9999 t a b hu
    cases op <;> simp only [boolBin] at h <;> first | exact h.2.elim | skip
    all_goals
      refine ⟨_, h.2, by simp, fun hg ρ W xo yo => ?_⟩
      rw [isB_conc (ρ := ρ) (h.1 hg).1, isB_conc (ρ := ρ) (h.1 hg).2]
      simp [Sem.run_bind, run_eqGuard_off (P := P) (W := W) (t := t) (x := xo) (y := yo) (a := .bool (Value.B x.val)) (b := .bool (Value.B y.val)) (.inl ⟨by simp, by simp⟩), binOp, e1]
  case string =>
    cases op <;> simp only [strBin] at h <;> first | exact h.2.elim | skip
    case add =>
      refine ⟨_, h.2.2, by simp, fun hg ρ W xo yo => ?_⟩
      have h3 := h.2.1 hg
      rw [isS_conc (ρ := ρ) (h.1 hg).1, isS_conc (ρ := ρ) (h.1 hg).2]
      have h4 : ¬ (((Value.S x.val).size + (Value.S y.val).size : Nat) : Int) > IntKind.i64.max := by
        have : IntKind.i64.max = 9223372036854775807 := by decide
        rw [this]; omega
      simp only [Sem.run_bind, run_eqGuard_off (P := P) (W := W) (t := t) (x := xo) (y := yo) (a := .string (Value.S x.val)) (b := .string (Value.S y.val)) (.inl ⟨by simp, by simp⟩), binOp, Op.stringOp, Result.andThen_ok, h4, if_false, Sem.run_pure]
    all_goals
      refine ⟨_, h.2, by simp, fun hg ρ W xo yo => ?_⟩
      rw [isS_conc (ρ := ρ) (h.1 hg).1, isS_conc (ρ := ρ) (h.1 hg).2]
      simp [run_eqGuard_off (P := P) (W := W) (t := t) (x := xo) (y := yo) (a := .string (Value.S x.val)) (b := .string (Value.S y.val)) (.inl ⟨by simp, by simp⟩), binOp, Op.stringOp]
  case int k =>
    by_cases hs : isShift op = true
    · rw [if_pos hs] at h
      have key : ∀ v, (∀ k' W, 0 ≤ Value.I y.val → (Op.shift op k (Value.I x.val) k' (Value.I y.val)).run P W = .ok v W) → g = true → ∀ ρ W xo yo,
          (do eqGuard op t xo yo (x.conc ρ) (y.conc ρ); binOp op t (x.conc ρ) (y.conc ρ) : Sem Value).run P W = .ok v W := by
        intro v hr hg ρ W xo yo
        obtain ⟨a1, ⟨k', a2⟩, a3⟩ := h.1 hg
        rw [isI_conc (ρ := ρ) a1, isI_conc (ρ := ρ) a2]
        cases op <;> simp only [isShift] at hs <;> first | cases hs | skip
        all_goals simp [Sem.run_bind, run_eqGuard_off (P := P) (W := W) (t := t) (x := xo) (y := yo) (a := .int k (Value.I x.val)) (b := .int k' (Value.I y.val)) (.inl ⟨by simp, by simp⟩), binOp, hr k' W a3]
      cases op <;> simp only [isShift] at hs <;> first | cases hs | skip
      all_goals
        simp only [shiftBin] at h
        exact ⟨_, h.2, by simp, key _ fun k' W h0 => by simp [Op.shift, Int.not_lt.2 h0]⟩
    · rw [if_neg hs] at h
      obtain ⟨v, hk, hn, hr⟩ := intBin_sound (P := P) h.2
      refine ⟨v, hk, hn, fun hg ρ W xo yo => ?_⟩
      rw [isI_conc (ρ := ρ) (h.1 hg).1, isI_conc (ρ := ρ) (h.1 hg).2]
      simp [Sem.run_bind, run_eqGuard_off (P := P) (W := W) (op := op) (t := t) (x := xo) (y := yo) (a := .int k (Value.I x.val)) (b := .int k (Value.I y.val)) (.inl ⟨by simp, by simp⟩), hr hg]
  case struct fs =>
    obtain ⟨hp, hgt, hlen, hl, hk⟩ := h
    have fsO : P.fieldsOf t = fs := by simp [Program.fieldsOf, hu]
    have conv : ∀ z : SV, leafsOk P 0 fs.toList (z.cells.map (·.val)) → ∀ ρ, z.conc ρ = .agg (z.cells.map (·.val)).toArray := by
      intro z hz ρ
      refine leafs_agg hz ?_ (.inl hlen)
      rintro r rfl
      match fs, hlen, hz with
      | ⟨[]⟩, _, hz => simp [SV.cells, leafsOk] at hz
      | ⟨[f]⟩, hlen, _ => exact hlen rfl
      | ⟨f :: g :: fs⟩, _, hz => simp [SV.cells, leafsOk] at hz
    have e1 : g = true → ∀ W, (Op.equal t (.agg (x.cells.map (·.val)).toArray) (.agg (y.cells.map (·.val)).toArray)).run P W = .ok (veqs (x.cells.map (·.val)) (y.cells.map (·.val))) W := by
      intro hg W
      show (Op.equalIn (9999 + 1) t _ _).run P W = _
      rw [run_equalIn_struct W 9999 t _ _ (by rw [fsO]; exact hu) hp, fsO]
      exact run_eqFields_leaf (d := 9998) fs.toList 0 _ _ _ _ (hl hg).1 (hl hg).2 (fun j => by simp) (fun j => by simp)
    cases op <;> simp only [strucBin] at hk <;> first | exact hk.elim | skip
    all_goals
      refine ⟨_, hk, by simp, fun hg ρ W xo yo => ?_⟩
      rw [conv x (hl hg).1 ρ, conv y (hl hg).2 ρ]
      simp [Sem.run_bind, run_eqGuard_off (P := P) (W := W) (t := t) (x := xo) (y := yo) (a := .agg (x.cells.map (·.val)).toArray) (b := .agg (y.cells.map (·.val)).toArray) (.inr ⟨hgt, by simp⟩), binOp, e1 hg]

end Go.SL
