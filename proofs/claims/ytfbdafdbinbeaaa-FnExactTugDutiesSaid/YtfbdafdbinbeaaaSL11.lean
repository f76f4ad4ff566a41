/- Plain theorems about the model: a symbolic state, its evaluation and its soundness. No condition; nothing of the program is named. -/
import Derived.Test.YtfbdafdbinbeaaaSL10
set_option linter.unusedVariables false
set_option linter.unusedSimpArgs false
namespace Go.SL
open Go Go.RowKit

section
variable {P : Program} {W0 : Base} {h0 : Hp} {N : Nat} {st : St} {g : Bool}

theorem Conc.put_q {ρ : Rho} {a : Act} {W : World} {d : Option Nat} {c : Bool} {sv : SV} {v : Value} (hw : st.wf = true) (hd : ∀ d', d = some d' → d' < N) (hf : FOk N ρ st.e a) (hW : WOk W0 h0 ρ st.p st.h W) (hl : sv.lt st.nx = true)
    (hv : v = if c = true then sv.conc ρ else undef) : Conc W0 h0 N (st.put d c sv) (a.put d v) W :=
  Conc.put_ hf hW (wf_p hw) (wf_e hw) hd hl hv

/-- Carried out, or passed over. -/
def Did (P : Program) (W0 : Base) (h0 : Hp) (N : Nat) (ops : List Oper) (o : Oper) (K : St → Prop) (Q : Exit → Act → World → Prop) (a : Act) (W : World) : Prop :=
  (Region.wanted o (yielded ops.toArray a.tmps) = true ∧ o.wp P a W (fun a' W' => ∃ st', K st' ∧ Conc W0 h0 N st' a' W') Q) ∨
  (Region.wanted o (yielded ops.toArray a.tmps) = false ∧ ∃ st', K st' ∧ Conc W0 h0 N st' (a.put o.dst undef) W)

theorem did_of_quiet {ops : List Oper} {o : Oper} {K : St → Prop} {Q : Exit → Act → World → Prop} {ρ : Rho} {a : Act} {W : World} {sv : SV} (hw : st.wf = true) (hd : ∀ d', o.dst = some d' → d' < N) (hf : FOk N ρ st.e a) (hW : WOk W0 h0 ρ st.p st.h W)
    (hg : Region.wanted o (yielded ops.toArray a.tmps) = g) (hk : K (st.put o.dst g sv)) (hl : sv.lt st.nx = true) (hy : g = true → Yv P W0 h0 N st o sv) : Did P W0 h0 N ops o K Q a W := by
  cases g with
  | true => exact .inl ⟨hg, wp_of_value (hy rfl ρ a W hf hW) ⟨_, hk, Conc.put_q hw hd hf hW hl rfl⟩⟩
  | false => exact .inr ⟨hg, _, hk, Conc.put_q hw hd hf hW hl rfl⟩

theorem did_of_runs {ops : List Oper} {o : Oper} {K : St → Prop} {Q : Exit → Act → World → Prop} {ρ : Rho} {a : Act} {W : World} (hg : Region.wanted o (yielded ops.toArray a.tmps) = true) (h : Runs P W0 h0 N o K ρ a W) : Did P W0 h0 N ops o K Q a W := by
  obtain ⟨v, W', hr, hk⟩ := h
  exact .inl ⟨hg, wp_of_value hr hk⟩

theorem SV.mapconc {vs : List SV} (h : (vs.all (·.plain)) = true) (ρ : Rho) : vs.map (·.conc ρ) = vs.map (·.pv) :=
  List.map_congr_left fun x hx => SV.pv_conc (List.all_eq_true.1 h x hx) ρ

theorem vcall_form {vf : SV} {vs : List SV} {K : Value → Hp → Prop} (h : vcall P st g vf vs K) : ∃ fn fs cs, vf = .c (.v (.func (.func fn) fs cs)) := by
  unfold vcall at h
  split at h
  · exact ⟨_, _, _, rfl⟩
  · exact h.elim

theorem vcall_sound {ops : List Oper} {o : Oper} {c : Call} {f : Operand} {K : St → Prop} {Q : Exit → Act → World → Prop} {ρ : Rho} {a : Act} {W : World} (ho : o.op = .call c) (hc : c.callee = .value f) (hw : st.wf = true) (hd : ∀ d', o.dst = some d' → d' < N)
    (hf : FOk N ρ st.e a) (hW : WOk W0 h0 ρ st.p st.h W) (hg : Region.wanted o (yielded ops.toArray a.tmps) = g)
    (h : getO st g f fun vf => getOs st g c.args.toList fun vs => vcall P st g vf vs fun v h' => K (St.mk (envPut st.e o.dst g (.of v)) st.p h' st.nx)) : Did P W0 h0 N ops o K Q a W := by
  obtain ⟨vf, h, _, hvf⟩ := getO_sound (N := N) hw h
  obtain ⟨vs, h, _, _, hvs⟩ := getOs_sound (N := N) hw h
  obtain ⟨fn, fs, cs, rfl⟩ := vcall_form h
  · obtain ⟨hp, h⟩ := h
    unfold vfn at h
    obtain ⟨R, hfn, h⟩ := h
    cases g with
    | false =>
      rcases h with h | ⟨V, _, hk⟩
      · exact absurd h.1 (by simp)
      · exact .inr ⟨hg, _, hk, Conc.put_ (h := st.h) hf hW (wf_p hw) (wf_e hw) hd (SV.of_lt _ _) (by simp)⟩
    | true =>
      have hfn := hfn rfl
      unfold Ct at hfn
      obtain ⟨hcall, hcalls⟩ := hfn
      replace hvf := hvf rfl ρ a hf
      replace hvs := hvs rfl ρ a hf
      rw [SV.mapconc hp] at hvs
      have hrun : (execOp a.eval o).run P W = .ok (.enter fn (fs.toList ++ (vs.map (·.pv) ++ cs.toList)).toArray) W := by
        obtain ⟨callee, args, ats⟩ := c
        simp only at hc hvs
        subst hc
        have e1 : args.map a.eval = (vs.map (·.pv)).toArray := Array.toList_inj.1 (by rw [Array.toList_map, hvs])
        simp only [execOp, ho]
        simp only [resolve, hvf, conc_c, conc_v, e1, Sem.run_bind, Deferred.ofValue, Sem.run_pure, Result.andThen_ok, invoke]
        rw [hcall]
        congr 3
        apply Array.toList_inj.1
        simp
      have hK : ∀ v h', R v h' → st.h.le h' → K (St.mk (envPut st.e o.dst true (.of v)) st.p h' st.nx) := by
        intro v h' hR hle
        rcases h with h | ⟨V, hV, hk⟩
        · exact h.2 v h' hle hR
        · obtain ⟨rfl, rfl⟩ := hV v h' hR; exact hk
      refine .inl ⟨hg, ?_⟩
      unfold Oper.wp
      rw [hrun]
      simp only [Oper.upon]
      refine (hcalls W hW.sees).mono ?_
      rintro e W' ⟨v, h', rfl, hR, hb, hle, hs, hn⟩
      exact ⟨_, hK v h' hR hle, Conc.put_ (c := true) hf (hW.grow hb hle hs hn) (wf_p hw) (wf_e hw) hd (SV.of_lt _ _) (by simp [SV.conc_of])⟩

theorem vop_sound {ops : List Oper} {o : Oper} {K : St → Prop} {Q : Exit → Act → World → Prop} {a : Act} {W : World} (hd : ∀ d', o.dst = some d' → d' < N) (h : vop P ops st o K) (hC : Conc W0 h0 N st a W) : Did P W0 h0 N ops o K Q a W := by
  obtain ⟨ρ, hf, hW, hw⟩ := hC
  obtain ⟨g, h, hg⟩ := vgd_sound (N := N) rfl h
  replace hg := hg ρ a hf
  have quiet : (vq P st g o.op fun sv => K (st.put o.dst g sv)) → Did P W0 h0 N ops o K Q a W := by
    intro h
    obtain ⟨sv, h1, h2, h3⟩ := vq_sound (P := P) (W0 := W0) (h0 := h0) (N := N) hw h
    exact did_of_quiet hw hd hf hW hg h1 h2 h3
  generalize hop : o.op = op at h
  cases op <;> simp only [vopG] at h <;> first | exact h.elim | (exact quiet (by rw [hop]; exact h)) | skip
  case alloc t => obtain ⟨rfl, h⟩ := h; exact did_of_runs hg (valloc_sound hop hw hd hf hW h)
  case box t x => obtain ⟨rfl, h⟩ := h; exact did_of_runs hg (vbox_sound hop hw hd hf hW h)
  case buildSlice t n ps => obtain ⟨rfl, h⟩ := h; exact did_of_runs hg (vbuildS_sound hop hw hd hf hW h)
  case makeSlice t l c => obtain ⟨rfl, h⟩ := h; exact did_of_runs hg (vmake_sound hop hw hd hf hW h)
  case store t x y =>
    obtain ⟨rfl, hn, h⟩ := h
    obtain ⟨W', hr, hk⟩ := vstore_sound hop hn hw hf hW h
    refine .inl ⟨hg, ?_⟩
    unfold Oper.wp
    rw [hr]
    exact hk
  case call c =>
    unfold vcallee at h
    split at h
    · rename_i f hc
      exact vcall_sound hop hc hw hd hf hW hg h
    · rename_i hc
      obtain ⟨rfl, h⟩ := h
      split at h
      · rename_i s x t t' ha ht
        obtain ⟨rfl, h⟩ := h
        obtain ⟨vs, k1, _, hs⟩ := getO_sound (N := N) hw h
        obtain ⟨vx, k2, _, hx⟩ := getO_sound (N := N) hw k1
        clear k1 h
        replace hs := hs rfl ρ a hf
        replace hx := hx rfl ρ a hf
        cases vs with
        | g _ => exact k2.elim
        | c vs => cases vs with
        | p _ _ => exact k2.elim
        | s r => exact did_of_runs hg (vappend_sound hop hc ha ht hw hd hf hW hs hx k2)
        | v y =>
          unfold vappendA at k2
          by_cases hy : isNilS y = true
          · simp only [hy, if_true] at k2
            have hy : y = .slice none 0 0 := by unfold isNilS at hy; split at hy <;> first | rfl | cases hy
            subst hy
            exact did_of_runs hg (vappend_sound hop hc ha ht hw hd hf hW hs hx k2)
          · simp only [hy, if_false, Bool.false_eq_true] at k2
            exact did_of_runs hg (vappendF_sound hop hc ha ht hw hd hf hW hs hx k2)
      · exact h.elim
    · rename_i b _ hc
      refine quiet ?_
      rw [hop]
      simp only [vq, hc]
      exact h
    · exact h.elim

def dstOk (N : Nat) : List Oper → Bool
  | [] => true
  | o :: l => (match o.dst with | some d => decide (d < N) | none => true) && dstOk N l

theorem vops_sound {ops : List Oper} {Q : Exit → Act → World → Prop} : ∀ {l : List Oper} {st : St} {K : St → Prop} {a : Act} {W : World}, dstOk N l = true → (∀ st' a' W', K st' → Conc W0 h0 N st' a' W' → Q .normal a' W') → vops P ops l st K → Conc W0 h0 N st a W →
    wpList P ops.toArray Q l a W
  | [], st, K, a, W, _, hQ, h, hC => hQ st a W h hC
  | o :: l, st, K, a, W, hd, hQ, h, hC => by
    simp only [dstOk, Bool.and_eq_true] at hd
    have hd1 : ∀ d', o.dst = some d' → d' < N := by
      intro d' e
      have := hd.1
      rw [e] at this
      simpa using this
    have := vop_sound (Q := Q) hd1 h hC
    simp only [wpList]
    rcases this with ⟨hw, hwp⟩ | ⟨hw, st', hk, hC'⟩
    · rw [if_pos hw]
      left
      refine Oper.wp_mono ?_ hwp
      rintro a' W' ⟨st', hk, hC'⟩
      exact vops_sound hd.2 hQ hk hC'
    · rw [if_neg (by simp [hw])]
      exact vops_sound hd.2 hQ hk hC'

/-! ### statements -/
structure Cx where
  P : Program
  W0 : Base
  h0 : Hp
  N : Nat

@[irreducible] def T (x : Cx) (st : St) (c : Code) (Q : Exit → St → Prop) : Prop :=
  ∀ a W, Conc x.W0 x.h0 x.N st a W → c.wp x.P (fun e a' W' => ∃ st', Q e st' ∧ Conc x.W0 x.h0 x.N st' a' W') a W

def qthen (n : St → Prop) (Q : Exit → St → Prop) : Exit → St → Prop
  | .normal, st => n st
  | e, st => Q e st
def qblock (id : Nat) (Q : Exit → St → Prop) : Exit → St → Prop
  | .exit i, st => if i = id then Q .normal st else Q (.exit i) st
  | e, st => Q e st
end

section
variable {x : Cx} {st : St} {Q : Exit → St → Prop}

theorem T_seq {c d : Code} (h : T x st c (qthen (fun st' => T x st' d Q) Q)) : T x st (.seq c d) Q := by
  unfold T at *
  intro a W hC
  refine wp_seq (Code.wp_mono ?_ (h a W hC))
  rintro e a' W' ⟨st', hq, hC'⟩
  cases e with
  | normal => exact hq a' W' hC'
  | _ => exact ⟨st', hq, hC'⟩
theorem T_region {id : Nat} {ops : List Oper} (hd : dstOk x.N ops = true) (h : vops x.P ops ops st fun st' => Q .normal st') : T x st (.region id ops.toArray false) Q := by
  unfold T
  intro a W hC
  exact wp_region_lit (vops_sound hd (fun st' a' W' hk hC' => ⟨st', hk, hC'⟩) h hC)
theorem T_skip (h : Q .normal st) : T x st .skip Q := by
  unfold T; exact fun a W hC => wp_skip ⟨st, h, hC⟩
theorem T_exit {id : Nat} (h : Q (.exit id) st) : T x st (.exit id) Q := by
  unfold T; exact fun a W hC => wp_exit ⟨st, h, hC⟩
theorem T_ret (h : Q .ret st) : T x st .ret Q := by
  unfold T; exact fun a W hC => wp_ret ⟨st, h, hC⟩
theorem T_block {id : Nat} {c : Code} (h : T x st c (qblock id Q)) : T x st (.block id c) Q := by
  unfold T at *
  intro a W hC
  refine wp_block (Code.wp_mono ?_ (h a W hC))
  rintro e a' W' ⟨st', hq, hC'⟩
  cases e with
  | exit i =>
    simp only [Exit.inBlock, qblock] at hq ⊢
    split
    · rename_i hi; rw [if_pos hi] at hq; exact ⟨st', hq, hC'⟩
    · rename_i hi; rw [if_neg hi] at hq; exact ⟨st', hq, hC'⟩
  | _ => exact ⟨st', hq, hC'⟩
theorem T_cond {t : Tmp} {c d : Code} {b : Bool} (hb : look t st.e = some (true, .c (.v (.bool b)))) (ht : b = true → T x st c Q) (hf : b = false → T x st d Q) : T x st (.cond (.tmp t) c d) Q := by
  unfold T at *
  intro a W hC
  have hC' := hC
  obtain ⟨ρ, hfo, _, _⟩ := hC'
  have h1 := hfo.2.2 t true _ hb
  refine wp_cond_split (t := b) (by simp [Act.eval, Array.getD_eq_getD_getElem?, h1]) (fun e => ht e a W hC) (fun e => hf e a W hC)

/-- st knows at least what st' says. -/
def leE (e : Env) : Env → Prop
  | [] => True
  | (t, y) :: l => look t e = some y ∧ leE e l
def leP (p : List (Nat × PB)) : List (Nat × PB) → Prop
  | [] => True
  | (r, b) :: l => look r p = some b ∧ leP p l
def St.le (st st' : St) : Prop := leE st.e st'.e ∧ leP st.p st'.p ∧ st'.h = st.h ∧ st'.wf = true

theorem leE_look {e : Env} : ∀ {e' : Env}, leE e e' → ∀ t y, look t e' = some y → look t e = some y
  | [], _, _, _, h => by cases h
  | (k, x) :: l, h, t, y, hl => by
    simp only [look] at hl
    split at hl
    · rename_i hk; subst hk; simp only [Option.some.injEq] at hl; subst hl; exact h.1
    · exact leE_look h.2 t y hl
theorem leP_look {p : List (Nat × PB)} : ∀ {p' : List (Nat × PB)}, leP p p' → ∀ t y, look t p' = some y → look t p = some y
  | [], _, _, _, h => by cases h
  | (k, x) :: l, h, t, y, hl => by
    simp only [look] at hl
    split at hl
    · rename_i hk; subst hk; simp only [Option.some.injEq] at hl; subst hl; exact h.1
    · exact leP_look h.2 t y hl
theorem Conc.weaken {W0 : Base} {h0 : Hp} {N : Nat} {st st' : St} {a : Act} {W : World} (h : st.le st') (hC : Conc W0 h0 N st a W) : Conc W0 h0 N st' a W := by
  obtain ⟨h1, h2, h3, h4⟩ := h
  obtain ⟨ρ, hf, hW, hw⟩ := hC
  refine ⟨ρ, ⟨hf.1, hf.2.1, fun t c sv hl => hf.2.2 t c sv (leE_look h1 t _ hl)⟩, ?_, h4⟩
  rw [h3]
  exact hW.drop (leP_look h2)

theorem T_weaken {st' : St} {c : Code} (hle : st.le st') (h : T x st' c Q) : T x st c Q := by
  unfold T at *
  exact fun a W hC => h a W (hC.weaken hle)

theorem wp_loopI {P : Program} {c : Code} {Q : Exit → Act → World → Prop} {ι : Type} (I : ι → Act → World → Prop) (μ : ι → Nat)
    (round : ∀ i a w, I i a w → c.wp P (Exit.then (fun a' w' => ∃ j, μ j < μ i ∧ I j a' w') Q) a w) : ∀ i a w, I i a w → (Code.loop c).wp P Q a w := by
  intro i a w h b k cs
  have key : ∀ n i a w, μ i = n → I i a w →
      ∃ e a' w', Q e a' w' ∧ Arrives P (lone (b.at a (.code c :: .inLoop c :: k)) cs w) b k cs e a' w' := by
    intro n
    induction n using Nat.strongRecOn with
    | _ n ih =>
      intro i a w hn hI
      obtain ⟨e, a₁, w₁, hq, harr⟩ := round i a w hI b (.inLoop c :: k) cs
      cases e with
      | normal =>
        obtain ⟨j, hlt, hI₁⟩ := hq
        obtain ⟨e₂, a₂, w₂, hq₂, harr₂⟩ := ih (μ j) (hn ▸ hlt) j a₁ w₁ rfl hI₁
        exact ⟨e₂, a₂, w₂, hq₂, .of_steps (Steps.trans harr (.one step_inLoop)) harr₂⟩
      | exit id => exact ⟨_, a₁, w₁, hq, .pass (x := .inLoop c) rfl (fun _ _ => .inl (by simp)) harr⟩
      | goto l => exact ⟨_, a₁, w₁, hq, .pass (x := .inLoop c) rfl (fun _ _ => .inl (by simp)) harr⟩
      | ret => exact ⟨_, a₁, w₁, hq, .pass (x := .inLoop c) rfl (fun _ _ => .inl (by simp)) harr⟩
      | panic ch => exact ⟨_, a₁, w₁, hq, .pass (x := .inLoop c) rfl (fun _ _ => .inl (by simp)) harr⟩
      | outgrown => exact ⟨_, a₁, w₁, hq, .pass (x := .inLoop c) rfl (fun _ _ => .inl (by simp)) harr⟩
  obtain ⟨e, a', w', hq, harr⟩ := key _ i a w rfl h
  exact ⟨e, a', w', hq, .of_steps (.one step_loop) harr⟩

theorem T_loop {ι : Type} {c : Code} (S : ι → St) (ok : ι → Prop) (m : ι → Nat) (i0 : ι) (h0 : ok i0) (hle : st.le (S i0))
    (hr : ∀ i, ok i → T x (S i) c (qthen (fun st' => ∃ j, ok j ∧ m j < m i ∧ st'.le (S j)) Q)) : T x st (.loop c) Q := by
  unfold T at *
  intro a W hC
  refine wp_loopI (fun i a' W' => ok i ∧ Conc x.W0 x.h0 x.N (S i) a' W') m ?_ i0 a W ⟨h0, hC.weaken hle⟩
  rintro i a W ⟨hi, hC⟩
  refine Code.wp_mono ?_ (hr i hi a W hC)
  rintro e a' W' ⟨st', hq, hC'⟩
  cases e with
  | normal =>
    obtain ⟨j, hj, hlt, hle⟩ := hq
    exact ⟨j, hlt, hj, hC'.weaken hle⟩
  | _ => exact ⟨st', hq, hC'⟩

/-! ### results, and the contract of a function -/
def resOne (P : Program) (st : St) (r : ResultVar) (K : Value → Prop) : Prop :=
  match r with
  | .tmp t => onD (some t) fun t => match look t st.e with
    | some (c, sv) => c = true ∧ sv.plain = true ∧ K sv.pv
    | none => False
  | .cell t ty => match look t st.e with
    | some (c, sv) => c = true ∧ vload P st true ty sv fun v => v.plain = true ∧ K v.pv
    | none => False
def resAll (P : Program) (st : St) : List ResultVar → (List Value → Prop) → Prop
  | [], K => K []
  | r :: rs, K => resOne P st r fun v => resAll P st rs fun vs => K (v :: vs)
def resVal : List Value → Value
  | [v] => v
  | vs => .tuple vs.toArray

theorem resOne_sound {P : Program} {W0 : Base} {h0 : Hp} {N : Nat} {st : St} {r : ResultVar} {K : Value → Prop} (hw : st.wf = true) (h : resOne P st r K) :
    ∃ v, K v ∧ ∀ ρ a W, FOk N ρ st.e a → WOk W0 h0 ρ st.p st.h W → (match r with
      | .tmp t => (pure (a.tmps.getD t undef) : Sem Value)
      | .cell ad t => do loadVar t (← asAddr (a.tmps.getD ad undef))).run P W = .ok v W := by
  cases r with
  | tmp t =>
    simp only [resOne, onD] at h
    split at h
    · rename_i c sv hl
      obtain ⟨rfl, hp, hk⟩ := h
      refine ⟨_, hk, fun ρ a W hf _ => ?_⟩
      have := hf.2.2 t true sv hl
      simp [Array.getD_eq_getD_getElem?, this, SV.pv_conc hp]
    · cases h
  | cell t ty =>
    simp only [resOne] at h
    split at h
    · rename_i c sv hl
      obtain ⟨rfl, h⟩ := h
      obtain ⟨v, ⟨hp, hk⟩, _, hr⟩ := vload_sound (W0 := W0) (h0 := h0) hw h
      refine ⟨_, hk, fun ρ a W hf hW => ?_⟩
      have h1 := hf.2.2 t true sv hl
      have h2 : (Instr.loadAt ty (sv.conc ρ)).run P W = .ok (v.conc ρ) W := hr rfl ρ W hW
      rw [SV.pv_conc hp] at h2
      have h3 : a.tmps.getD t undef = sv.conc ρ := by simp [Array.getD_eq_getD_getElem?, h1]
      simp only [h3]
      simp only [Instr.loadAt] at h2
      generalize sv.conc ρ = y at h2
      cases y with
      | pointer ad =>
        cases ad with
        | none => simp [Instr.sureAddr, stuck, Sem.run_bind, Sem.run] at h2
        | some ad => simpa [Instr.sureAddr, asAddr, Sem.run_bind] using h2
      | _ => simp [Instr.sureAddr, stuck, Sem.run_bind, Sem.run] at h2
    · cases h

theorem resAll_sound {P : Program} {W0 : Base} {h0 : Hp} {N : Nat} {st : St} (hw : st.wf = true) : ∀ {rs : List ResultVar} {K : List Value → Prop}, resAll P st rs K →
    ∃ vs, K vs ∧ ∀ ρ a W, FOk N ρ st.e a → WOk W0 h0 ρ st.p st.h W → (rs.mapM (m := Sem) fun
      | .tmp t => pure (a.tmps.getD t undef)
      | .cell ad t => do loadVar t (← asAddr (a.tmps.getD ad undef))).run P W = .ok vs W
  | [], K, h => ⟨[], h, fun _ _ _ _ _ => rfl⟩
  | r :: rs, K, h => by
    obtain ⟨v, h, h1⟩ := resOne_sound (W0 := W0) (h0 := h0) (N := N) hw h
    obtain ⟨vs, h, h2⟩ := resAll_sound (P := P) hw h
    refine ⟨v :: vs, h, fun ρ a W hf hW => ?_⟩
    rw [List.mapM_cons]
    rw [Sem.run_bind]
    have e1 := h1 ρ a W hf hW
    have e2 := h2 ρ a W hf hW
    cases r <;> simp only at e1 <;> simp only [e1, Result.andThen_ok, Sem.run_bind, e2, Sem.run_pure]

/-- The frame that a call enters with. -/
def envArgs : Nat → List Value → Env
  | _, [] => []
  | i, v :: vs => (i, true, .of v) :: envArgs (i + 1) vs
theorem envArgs_look : ∀ {vs : List Value} {i t : Nat} {c : Bool} {sv : SV}, look t (envArgs i vs) = some (c, sv) → ∃ j v, t = i + j ∧ vs[j]? = some v ∧ c = true ∧ sv = .of v
  | [], _, _, _, _, h => by cases h
  | v :: vs, i, t, c, sv, h => by
    simp only [envArgs, look] at h
    split at h
    · rename_i e; simp only [Option.some.injEq, Prod.mk.injEq] at h; exact ⟨0, v, by omega, rfl, h.1.symm, h.2.symm⟩
    · obtain ⟨j, u, h1, h2, h3, h4⟩ := envArgs_look h
      exact ⟨j + 1, u, by omega, by simpa using h2, h3, h4⟩
theorem envArgs_lt : ∀ {vs : List Value} {i n : Nat}, envLt n (envArgs i vs) = true
  | [], _, _ => rfl
  | v :: vs, i, n => by simp [envArgs, envLt, SV.of_lt, envArgs_lt]

theorem Ct_of_T {P : Program} {f : FuncId} {fn : Func} {c : Code} {args : List Value} {h : Hp} {R : Value → Hp → Prop} {rs : List ResultVar} (hcall : ∀ A W, (callFunc f A).run P W = .ok (.enter f A) W) (hf : P.funcs[f]? = some fn) (hb : fn.body = some c) (hrs : fn.results = rs.toArray)
    (hN : args.length ≤ fn.ntmps)
    (H : ∀ W0, T ⟨P, W0, h, fn.ntmps⟩ ⟨envArgs 0 args, [], h, 0⟩ c fun e st => match e with
      | .normal => resAll P st rs fun vs => R (resVal vs) st.h
      | .ret => resAll P st rs fun vs => R (resVal vs) st.h
      | _ => False) : Ct P f args h R := by
  unfold Ct
  refine ⟨hcall, fun W hs => calls_of_wp hf hb ?_⟩
  have hin : ∀ b o, h b = some o → b < W.heap.size := fun b o hb => (Array.getElem?_eq_some_iff.1 (hs b o hb)).1
  have H := H ⟨W, fun g => W.heap.size ≤ g, fun _ x => x⟩
  unfold T at H
  refine Code.wp_mono ?_ (H _ W ⟨fun _ => undef, ⟨rfl, by simp; omega, fun t cc sv hl => ?_⟩, ⟨⟨rfl, rfl, rfl, Nat.le_refl _, fun _ _ => rfl⟩, hs, fun b o x _ => x, fun b o h1 h2 => ?_, fun r b g hr => (by cases hr), fun r b hr => (by cases hr), fun r b g hr => (by cases hr), fun r b r' b' g hr => (by cases hr)⟩, ?_⟩)
  · rintro e a' W' ⟨st', hq, ⟨ρ, hfo, hW, hw⟩⟩
    have fin : (resAll P st' rs fun vs => R (resVal vs) st'.h) → a'.defers = [] ∧ ∃ v, (results fn a'.tmps).run P W' = .ok v W' ∧ ∃ v' h', Ending.returned v = .returned v' ∧ R v' h' ∧ Below W.heap.size W W' ∧ h.le h' ∧ Sees h' W' ∧ ∀ b o, h' b = some o → h b = none → W.heap.size ≤ b := by
      intro hres
      obtain ⟨vs, hk, hrun⟩ := resAll_sound (P := P) (W0 := ⟨W, fun g => W.heap.size ≤ g, fun _ x => x⟩) (h0 := h) (N := fn.ntmps) hw hres
      refine ⟨hfo.1, resVal vs, ?_, _, _, rfl, hk, ⟨hW.below.os, hW.below.tape, hW.below.output, hW.below.size, fun k hk => hW.below.block k (Nat.not_le_of_lt hk)⟩, fun b o hb => hW.ext b o hb (Nat.not_le_of_lt (hin b o hb)), hW.sees, hW.new⟩
      have h1 : (rs.toArray.toList.mapM (m := Sem) fun
        | .tmp t => pure (a'.tmps.getD t undef)
        | .cell ad t => do loadVar t (← asAddr (a'.tmps.getD ad undef))).run P W' = .ok vs W' := hrun ρ a' W' hfo hW
      unfold results
      rw [hrs, Sem.run_bind, Array.mapM_eq_mapM_toList]
      have e : ∀ m : Sem (List Value), (List.toArray <$> m) = m >>= fun l => pure l.toArray := fun _ => rfl
      rw [e, Sem.run_bind]
      refine Eq.trans (congrArg (fun (r : Result (List Value)) => (r.andThen fun a w' => Sem.run P (pure a.toArray) w').andThen fun a w' => Sem.run P (pure (if h : a.size = 1 then a[0] else Value.tuple a)) w') h1) ?_
      simp only [Result.andThen_ok, Sem.run_pure]
      match vs with
      | [] => rfl
      | [v] => rfl
      | _ :: _ :: _ => rfl
    cases e with
    | normal => exact fin hq
    | ret => exact fin hq
    | _ => exact hq.elim
  · obtain ⟨j, v, h1, h2, rfl, rfl⟩ := envArgs_look hl
    have hj : j < args.length := (List.getElem?_eq_some_iff.1 h2).1
    rw [if_pos rfl, SV.conc_of, h1, Nat.zero_add]
    have := (List.getElem?_eq_some_iff.1 h2).2
    simp [Array.getElem?_append, hj, this]
  · exact absurd (h1.symm.trans h2) (by simp)
  · simp [St.wf, envArgs_lt, pbLt]
end
end Go.SL
