/- Plain theorems about the model: a symbolic state, its evaluation and its soundness. No condition; nothing of the program is named. -/
import Derived.Test.YtfbdafdbinbeaaaSL7
import Derived.Great.FillDense
import Derived.Great.BuildSlice
set_option linter.unusedVariables false
set_option linter.unusedSimpArgs false
namespace Go.SL
open Go Go.RowKit

/-! ### contracts -/
@[irreducible] def Ct (P : Program) (f : FuncId) (args : List Value) (h : Hp) (R : Value → Hp → Prop) : Prop :=
  (∀ A W, (callFunc f A).run P W = .ok (.enter f A) W) ∧
  ∀ W, Sees h W → Calls P f args.toArray W fun e W' => ∃ v h', e = .returned v ∧ R v h' ∧ Below W.heap.size W W' ∧ h.le h' ∧ Sees h' W' ∧ ∀ b o, h' b = some o → h b = none → W.heap.size ≤ b

theorem Ct.mono {P : Program} {f : FuncId} {args : List Value} {h : Hp} {R R' : Value → Hp → Prop} (H : Ct P f args h R) (hr : ∀ v h', h.le h' → R v h' → R' v h') : Ct P f args h R' := by
  unfold Ct at *
  exact ⟨H.1, fun W hs => (H.2 W hs).mono fun _ _ ⟨v, h', he, r, b, l, s, n⟩ => ⟨v, h', he, hr v h' l r, b, l, s, n⟩⟩

def Hp.ins (h : Hp) (g : Nat) (o : Obj) : Hp := fun b => if b = g then some o else h b
theorem Hp.ins_le {h : Hp} {g : Nat} {o : Obj} (hg : h g = none) : h.le (h.ins g o) := by
  intro b x hb
  simp only [Hp.ins]
  split
  · rename_i e; subst e; rw [hg] at hb; cases hb
  · exact hb

/-! ### evaluation of effects -/
def envPut (e : Env) (d : Option Nat) (c : Bool) (sv : SV) : Env :=
  match d with
  | none => e
  | some d => (d, c, sv) :: e
def St.put (st : St) (d : Option Nat) (c : Bool) (sv : SV) : St := ⟨envPut st.e d c sv, st.p, st.h, st.nx⟩

def dstAt : List Oper → Nat → Option Tmp
  | [], _ => none
  | o :: _, 0 => o.dst
  | _ :: l, j + 1 => dstAt l j

def onG (x : Option (Bool × SV)) (want : Bool) (K : Bool → Prop) : Prop :=
  match x with
  | some (c, sv) => (c = true → Value.isB sv.val) ∧ K (c && (Value.B sv.val == want))
  | none => False
def onD (x : Option Tmp) (K : Tmp → Prop) : Prop :=
  match x with
  | some d => K d
  | none => False
def vgd (ops : List Oper) (st : St) (gd : Option (Nat × Bool)) (K : Bool → Prop) : Prop :=
  match gd with
  | none => K true
  | some (j, want) => onD (dstAt ops j) fun d => onG (look d st.e) want K

def SC.okc (p : List (Nat × PB)) : SC → Bool
  | .v x => x.oneCell'
  | .p _ _ => true
  | .s r => match look r p with
    | some (.row ..) => true
    | _ => false
def plainC : SC → Bool | .v _ => true | _ => false
def SV.plain : SV → Bool
  | .c x => plainC x
  | .g cs => cs.all plainC
def SV.pv : SV → Value
  | .c x => x.val
  | .g cs => .agg (cs.map (·.val)).toArray
theorem SV.pv_conc {x : SV} (h : x.plain = true) (ρ : Rho) : x.conc ρ = x.pv := by
  cases x with
  | c x => cases x <;> simp_all [SV.plain, plainC, SV.pv, SC.val]
  | g cs =>
    simp only [SV.plain, List.all_eq_true] at h
    simp only [conc_g, SV.pv]
    congr 2
    exact List.map_congr_left fun c hc => by have := h c hc; cases c <;> simp_all [plainC, SC.val]

def vstoreP (P : Program) (p : List (Nat × PB)) (t : TypeId) (r o : Nat) (b : Option PB) (x : SV) (K : List (Nat × PB) → Prop) : Prop :=
  match b with
  | some (.box ty cs) => x.cells.length = szT P t ∧ o + szT P t ≤ cs.length ∧ (x.cells.all (·.okc p)) = true ∧ K (setP r (.box ty (spliceC o x.cells cs)) p)
  | some (.row e sz n xs) => x.cells.length = szT P t ∧ o + szT P t ≤ xs.length ∧ (x.cells.all fun c => plainC c && c.val.oneCell') = true ∧ K (setP r (.row e sz n (spliceC o (x.cells.map (·.val)) xs)) p)
  | none => False
def vstore (P : Program) (p : List (Nat × PB)) (t : TypeId) (a x : SV) (K : List (Nat × PB) → Prop) : Prop :=
  hasT P t = true ∧ match a with
  | .c (.p r o) => vstoreP P p t r o (look r p) x K
  | _ => False

def zeroOn (P : Program) (t : TypeId) (K : List Value → Prop) : Prop :=
  match zeroT P t with
  | some z => K z
  | none => False

def partsS (sz : Nat) : Nat → List Nat → List SV → Prop
  | _, [], [] => True
  | i, j :: js, x :: xs => j = i ∧ x.cells.length = sz ∧ x.plain = true ∧ partsS sz (i + 1) js xs
  | _, _, _ => False

def Hp.ldL (h : Hp) (y : Value) (size : Nat) : Option (List Value) := if Value.L y = 0 then some [] else h.lds (Value.A y) (Value.L y * size)

def elemOn (P : Program) (t : TypeId) (K : TypeId → Prop) : Prop :=
  match elemT P t with
  | some e => hasT P e = true ∧ K e
  | none => False

/-- The cells that an append's second operand brings. -/
def vsrc (st : St) (sz : Nat) (x : SV) (K : Nat → List Value → Prop) : Prop :=
  match x with
  | .c (.v y) => Value.isA y ∧ (st.h.ldL y sz).isSome = true ∧ K (Value.L y) ((st.h.ldL y sz).getD [])
  | .c (.s r) => match look r st.p with
    | some (.row _ sz' m ys) => sz' = sz ∧ K m ys
    | _ => False
  | _ => False
/-- What the first one holds, and what is left of the private blocks behind it. -/
def vdst (st : St) (e : TypeId) (sz : Nat) (x : SV) (K : Nat → List Value → List (Nat × PB) → Prop) : Prop :=
  match x with
  | .c (.s r) => match look r st.p with
    | some (.row e' sz' n xs) => e' = e ∧ sz' = sz ∧ K n xs (dropP r st.p)
    | _ => False
  | .c (.v (.slice none 0 0)) => K 0 [] st.p
  | _ => False

def vappend (P : Program) (st : St) (t : TypeId) (s x : SV) (K : TypeId → Nat → Nat → List Value → List (Nat × PB) → Prop) : Prop :=
  elemOn P t fun e => zeroOn P e fun z => z.length = szT P e ∧ 0 < szT P e ∧
    vsrc st (szT P e) x fun m ys => vdst st e (szT P e) s fun n xs p => (∀ u ∈ ys, u.oneCell' = true) ∧ n + m ≤ maxLen ∧ (n + m) * P.bytesOf e ≤ 140737488355328 ∧
      K e (szT P e) (n + m) (xs ++ ys) p
/-- append to a seen slice that is full: a new row. -/
def vappendF (P : Program) (st : St) (t : TypeId) (y : Value) (x : SV) (K : TypeId → Nat → Nat → List Value → Prop) : Prop :=
  elemOn P t fun e => zeroOn P e fun z => z.length = szT P e ∧ 0 < szT P e ∧ Value.isA y ∧ Value.C y = Value.L y ∧ (Value.A y).isSome = true ∧ (st.h.ldL y (szT P e)).isSome = true ∧
    vsrc st (szT P e) x fun m ys => 0 < m ∧ (∀ u ∈ ys, u.oneCell' = true) ∧ Value.L y + m ≤ maxLen ∧ (Value.L y + m) * P.bytesOf e ≤ 140737488355328 ∧
      K e (szT P e) (Value.L y + m) ((st.h.ldL y (szT P e)).getD [] ++ ys)

def isNilS : Value → Bool
  | .slice none 0 0 => true
  | _ => false
def vappendA (P : Program) (st : St) (t : TypeId) (s x : SV) (K : TypeId → Nat → Nat → List Value → List (Nat × PB) → Prop) : Prop :=
  match s with
  | .c (.v y) => if isNilS y = true then vappend P st t (.c (.v (.slice none 0 0))) x K else vappendF P st t y x fun e sz n xs => K e sz n xs st.p
  | .c (.s r) => vappend P st t (.c (.s r)) x K
  | _ => False

def isZero : Operand → Bool
  | .const (.int _ 0) => true
  | _ => false

def vmake (P : Program) (st : St) (t : TypeId) (l c : Operand) (K : TypeId → Nat → Nat → List Value → Prop) : Prop :=
  elemOn P t fun e => zeroOn P e fun z => z.length = szT P e ∧ getO st true l fun vl => getO st true c fun vc =>
    (∃ k, Value.isI k vl.val) ∧ (∃ k, Value.isI k vc.val) ∧ 0 ≤ Value.I vc.val ∧ Value.I vc.val ≤ maxLen ∧ P.bytesOf e * (Value.I vc.val).toNat ≤ 140737488355328 ∧
    if isZero l = true then K e (szT P e) 0 [] else Value.I vl.val = Value.I vc.val ∧ K e (szT P e) (Value.I vc.val).toNat (madeCells z.toArray ((Value.I vc.val).toNat * szT P e)).toList

/-- The call of a function whose arguments are plain. -/
@[irreducible] def vfn (P : Program) (st : St) (g : Bool) (f : FuncId) (args : List Value) (K : Value → Hp → Prop) : Prop :=
  ∃ R, (g = true → Ct P f args st.h R) ∧ ((g = true ∧ ∀ v h', st.h.le h' → R v h' → K v h') ∨ ((∃ V, (∀ v h', R v h' → v = V ∧ h' = st.h) ∧ K V st.h)))
def vcall (P : Program) (st : St) (g : Bool) (vf : SV) (vs : List SV) (K : Value → Hp → Prop) : Prop :=
  match vf with
  | .c (.v (.func (.func f) fs cs)) => (vs.all (·.plain)) = true ∧ vfn P st g f (fs.toList ++ (vs.map (·.pv) ++ cs.toList)) K
  | _ => False

def vcallee (P : Program) (st : St) (o : Oper) (g : Bool) (c : Call) (callee : Callee) (K : St → Prop) : Prop :=
  match callee with
  | .value f => getO st g f fun vf => getOs st g c.args.toList fun vs => vcall P st g vf vs fun v h' => K (St.mk (envPut st.e o.dst g (.of v)) st.p h' st.nx)
  | .builtin .append => g = true ∧ match c.args.toList, c.argTypes.toList with
    | [s, x], [t, t'] => t = t' ∧ getO st true s fun vs => getO st true x fun vx =>
      vappendA P st t vs vx fun e sz n xs p => K (St.mk (envPut st.e o.dst true (.c (.s st.nx))) ((st.nx, .row e sz n xs) :: p) st.h (st.nx + 1))
    | _, _ => False
  | .builtin b => vbuiltin P st g b c.argTypes.toList c.args.toList fun sv => K (st.put o.dst g sv)
  | _ => False

/-- A literal whose memory is seen at once. -/
def vbuildSeen (P : Program) (st : St) (o : Oper) (t : TypeId) (n : Nat) (ps : Array (Nat × Operand)) (K : St → Prop) : Prop :=
  getOs st true (ps.toList.map (·.2)) fun vs => elemOn P t fun e => 0 < szT P e ∧ zeroOn P e fun z => z.length = szT P e ∧ n * szT P e ≤ 16777216 ∧ ps.toList.length = n ∧ partsS (szT P e) 0 (ps.toList.map (·.1)) vs ∧
      ∀ b, st.h b = none → K (St.mk (envPut st.e o.dst true (.c (.v (.slice (some ⟨b, 0, none⟩) n n)))) st.p (st.h.ins b (.cells (vs.flatMap fun x => x.cells.map (·.val)).toArray e (0, 0))) st.nx)
def vopG (P : Program) (st : St) (o : Oper) (g : Bool) (op : Op) (K : St → Prop) : Prop :=
  match op with
  | .alloc t => g = true ∧ zeroOn P t fun z => K (St.mk (envPut st.e o.dst true (.c (.p st.nx 0))) ((st.nx, .box t (z.map .v)) :: st.p) st.h (st.nx + 1))
  | .box t x => g = true ∧ getO st true x fun v => (v.cells.all (·.okc st.p)) = true ∧ K (St.mk (envPut st.e o.dst true (.c (.p st.nx 0))) ((st.nx, .box t v.cells) :: st.p) st.h (st.nx + 1))
  | .store t a x => g = true ∧ o.dst = none ∧ getO st true a fun va => getO st true x fun vx => vstore P st.p t va vx fun p => K (St.mk st.e p st.h st.nx)
  | .buildSlice t n ps => g = true ∧ getOs st true (ps.toList.map (·.2)) fun vs => elemOn P t fun e => 0 < szT P e ∧ zeroOn P e fun z => z.length = szT P e ∧ n * szT P e ≤ 16777216 ∧ ps.toList.length = n ∧ partsS (szT P e) 0 (ps.toList.map (·.1)) vs ∧
      K (St.mk (envPut st.e o.dst true (.c (.s st.nx))) ((st.nx, .row e (szT P e) n (vs.flatMap fun x => x.cells.map (·.val))) :: st.p) st.h (st.nx + 1))
  | .makeSlice t l c => g = true ∧ vmake P st t l c fun e sz n xs => K (St.mk (envPut st.e o.dst true (.c (.s st.nx))) ((st.nx, .row e sz n xs) :: st.p) st.h (st.nx + 1))
  | .call c => vcallee P st o g c c.callee K
  | .move x => vq P st g (.move x) fun sv => K (st.put o.dst g sv)
  | .assign x => vq P st g (.assign x) fun sv => K (st.put o.dst g sv)
  | .pick c a b => vq P st g (.pick c a b) fun sv => K (st.put o.dst g sv)
  | .load t x => vq P st g (.load t x) fun sv => K (st.put o.dst g sv)
  | .nilCheck x => vq P st g (.nilCheck x) fun sv => K (st.put o.dst g sv)
  | .binOp b t x y t' => vq P st g (.binOp b t x y t') fun sv => K (st.put o.dst g sv)
  | .unOp b t x => vq P st g (.unOp b t x) fun sv => K (st.put o.dst g sv)
  | .convert s d x => vq P st g (.convert s d x) fun sv => K (st.put o.dst g sv)
  | .fieldAddr t x f => vq P st g (.fieldAddr t x f) fun sv => K (st.put o.dst g sv)
  | .field t x f => vq P st g (.field t x f) fun sv => K (st.put o.dst g sv)
  | .indexAddr t x i => vq P st g (.indexAddr t x i) fun sv => K (st.put o.dst g sv)
  | .index t x i => vq P st g (.index t x i) fun sv => K (st.put o.dst g sv)
  | .extract x i => vq P st g (.extract x i) fun sv => K (st.put o.dst g sv)
  | .slice t x l u m => vq P st g (.slice t x l u m) fun sv => K (st.put o.dst g sv)
  | .build t ps => vq P st g (.build t ps) fun sv => K (st.put o.dst g sv)
  | _ => False

def vop (P : Program) (ops : List Oper) (st : St) (o : Oper) (K : St → Prop) : Prop :=
  vgd ops st o.guard fun g => vopG P st o g o.op K
def vops (P : Program) (ops : List Oper) : List Oper → St → (St → Prop) → Prop
  | [], st, K => K st
  | o :: l, st, K => vop P ops st o fun st' => vops P ops l st' K

section
variable {P : Program} {W0 : Base} {h0 : Hp} {N : Nat} {st : St} {g : Bool}

theorem dstAt_eq : ∀ (ops : List Oper) (j : Nat), dstAt ops j = ((ops[j]?).bind (·.dst))
  | [], j => by simp [dstAt]
  | o :: l, 0 => by simp [dstAt]
  | o :: l, j + 1 => by simp [dstAt, dstAt_eq l j]

theorem wf_e (h : st.wf = true) : envLt st.nx st.e = true := by simp only [St.wf, Bool.and_eq_true] at h; exact h.1
theorem wf_p (h : st.wf = true) : pbLt st.nx st.p = true := by simp only [St.wf, Bool.and_eq_true] at h; exact h.2

theorem vgd_sound {ops : List Oper} {gd : Option (Nat × Bool)} {o : Oper} {K : Bool → Prop} (ho : o.guard = gd) (h : vgd ops st gd K) :
    ∃ g, K g ∧ ∀ ρ a, FOk N ρ st.e a → Region.wanted o (yielded ops.toArray a.tmps) = g := by
  cases gd with
  | none => exact ⟨true, h, fun ρ a _ => by simp [Region.wanted, ho]⟩
  | some jw =>
    obtain ⟨j, want⟩ := jw
    simp only [vgd, onD] at h
    split at h
    · rename_i d hd
      unfold onG at h
      split at h
      · rename_i c sv hl
        refine ⟨_, h.2, fun ρ a hf => ?_⟩
        have h1 := hf.2.2 d c sv hl
        rw [dstAt_eq] at hd
        simp only [Region.wanted, ho, yielded, List.getElem?_toArray, hd, Option.bind_some, h1]
        cases c with
        | false => simp [undef]
        | true =>
          rw [if_pos rfl, isB_conc (ρ := ρ) (h.1 rfl)]
          cases Value.B sv.val <;> cases want <;> rfl
      · cases h
    · cases h

/-- The state with one slot more. -/
theorem Conc.put_ {ρ : Rho} {a : Act} {W : World} {d : Option Nat} {c : Bool} {sv : SV} {v : Value} {p : List (Nat × PB)} {h : Hp} {nx : Nat}
    (hf : FOk N ρ st.e a) (hW : WOk W0 h0 ρ p h W) (hp : pbLt nx p = true) (he : envLt nx st.e = true) (hd : ∀ d', d = some d' → d' < N) (hl : sv.lt nx = true) (hv : v = if c = true then sv.conc ρ else undef) :
    Conc W0 h0 N (St.mk (envPut st.e d c sv) p h nx) (a.put d v) W := by
  cases d with
  | none => exact ⟨ρ, hf, hW, by simp [St.wf, envPut, hp, he]⟩
  | some d => exact ⟨ρ, hf.put (hd d rfl) hv, hW, by simp [St.wf, envPut, hp, he, envLt, hl]⟩

theorem run_value' {S : Sem Value} {v : Value} {W W' : World} (h : S.run P W = .ok v W') : (do pure (Next.value (← S)) : Sem Next).run P W = .ok (.value v) W' := by
  simp [Sem.run_bind, h]

theorem okc_conc {ρ : Rho} {W : World} {p : List (Nat × PB)} {h : Hp} (hW : WOk W0 h0 ρ p h W) {c : SC} (hc : c.okc p = true) : (c.conc ρ).oneCell' = true := by
  cases c with
  | v x => exact hc
  | p r o => rfl
  | s r =>
    simp only [SC.okc] at hc
    split at hc
    · rename_i e sz n xs hl
      have hb : W.ownsRow 0 e sz (ρ r) n xs := hW.priv r _ hl
      rcases hb.2 with ⟨h1, _⟩ | ⟨gg, cap, cur, h1, _⟩ <;> simp [h1, Value.oneCell']
    · cases hc
theorem okc_cells {ρ : Rho} {W : World} {p : List (Nat × PB)} {h : Hp} (hW : WOk W0 h0 ρ p h W) {x : SV} (hc : (x.cells.all (·.okc p)) = true) : (x.conc ρ).cells = (x.cells.map (·.conc ρ)).toArray := by
  rcases SV.cells_conc ρ x with h | ⟨r, rfl⟩
  · exact h
  · have h1 := okc_conc hW (c := .s r) (by simpa [SV.cells] using hc)
    simp only [conc_s] at h1
    simp only [conc_c, conc_s, SV.cells, List.map_cons, List.map_nil]
    cases hv : ρ r <;> rw [hv] at h1 <;> first | rfl | cases h1

theorem Hp.ldL_spec {h : Hp} {y : Value} {sz : Nat} (_hy : Value.isA y) (hs : (h.ldL y sz).isSome = true) :
    ∃ l, h.ldL y sz = some l ∧ l.length = Value.L y * sz ∧ (0 < Value.L y → 0 < sz → ∃ ad, Value.A y = some ad) ∧ ∀ W, Sees h W → ∀ ad, Value.A y = some ad → ∀ j u, l[j]? = some u → W.cell? (ad.add j) = some u := by
  obtain ⟨l, hl⟩ := Option.isSome_iff_exists.1 hs
  refine ⟨l, hl, ?_⟩
  unfold Hp.ldL at hl
  split at hl
  · rename_i h0
    simp only [Option.some.injEq] at hl
    subst hl
    exact ⟨by simp [h0], fun h1 => by omega, fun _ _ _ _ j u hu => by simp at hu⟩
  · cases hA : Value.A y with
    | none => rw [hA] at hl; cases hl
    | some ad =>
      rw [hA] at hl
      obtain ⟨h1, h2⟩ := cellsAt_spec (show h.cellsAt ad 0 _ = some l from hl)
      refine ⟨h1, fun _ _ => ⟨ad, rfl⟩, fun W hs ad' he j u hu => ?_⟩
      simp only [Option.some.injEq] at he
      subst he
      exact cell_of_sees hs (by simpa using h2 j u hu)

/-- What 'next' is asked behind an operation that yields a value. -/
theorem wp_of_value {o : Oper} {a : Act} {W W' : World} {v : Value} {next : Act → World → Prop} {Q : Exit → Act → World → Prop} (hr : (execOp a.eval o).run P W = .ok (.value v) W') (h : next (a.put o.dst v) W') : o.wp P a W next Q := by
  unfold Oper.wp
  rw [hr]
  exact h

theorem elemOn_spec {t : TypeId} {K : TypeId → Prop} (h : elemOn P t K) : ∃ e, P.underlying t = some (.slice e) ∧ hasT P e = true ∧ K e := by
  unfold elemOn at h
  split at h
  · rename_i e he; exact ⟨e, elemT_spec he, h.1, h.2⟩
  · cases h
theorem zeroOn_spec {t : TypeId} {K : List Value → Prop} (h : zeroOn P t K) : ∃ z, zeroT P t = some z ∧ K z := by
  unfold zeroOn at h
  split at h
  · rename_i z hz; exact ⟨z, hz, h⟩
  · cases h
theorem zeroT_info {t : TypeId} {z : List Value} (h : zeroT P t = some z) : ∃ (i : TypeInfo) (v : Value), P.info? t = some i ∧ i.zero = some v ∧ v.cells = z.toArray ∧ i.size = szT P t ∧ i.bytes = P.bytesOf t := by
  unfold zeroT at h
  obtain ⟨v, h1, h2⟩ := Option.map_eq_some_iff.1 h
  obtain ⟨i, hi, hz⟩ := Option.bind_eq_some_iff.1 h1
  exact ⟨i, v, hi, hz, by rw [← h2], by simp [szT, Program.cellsOf, hi], by simp [Program.bytesOf, hi]⟩
end
end Go.SL
