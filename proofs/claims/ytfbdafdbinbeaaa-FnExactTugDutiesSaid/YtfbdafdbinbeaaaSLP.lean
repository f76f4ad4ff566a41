/- Plain theorems about the model: a symbolic state, its evaluation and its soundness. No condition; nothing of the program is named. -/
import Derived.Test.YtfbdafdbinbeaaaSLO
set_option linter.unusedVariables false
set_option linter.unusedSimpArgs false
namespace Go.SL
open Go Go.RowKit
/-! ### private blocks under other numbers -/
def rn : List Nat → Nat → Nat
  | [], _ => 0
  | a :: _, 0 => a
  | _ :: l, n + 1 => rn l n
def SC.ren (l : List Nat) : SC → SC
  | .v x => .v x
  | .p r o => .p (rn l r) o
  | .s r => .s (rn l r)
def SV.ren (l : List Nat) : SV → SV
  | .c x => .c (x.ren l)
  | .g cs => .g (cs.map (·.ren l))
def renE (l : List Nat) : Env → Env
  | [] => []
  | (t, c, sv) :: e => (t, c, sv.ren l) :: renE l e
def PB.ren (l : List Nat) : PB → PB
  | .box ty cs => .box ty (cs.map (·.ren l))
  | .row e sz n xs => .row e sz n xs
def renP (l : List Nat) : List (Nat × PB) → List (Nat × PB)
  | [] => []
  | (r, b) :: p => (rn l r, b.ren l) :: renP l p
def rowsLt (n : Nat) : List (Nat × PB) → Bool
  | [] => true
  | (r, _) :: p => decide (r < n) && rowsLt n p
def St.leG (l : List Nat) (h0 : Hp) (st st' : St) : Prop := leE st.e (renE l st'.e) ∧ leP st.p (renP l st'.p) ∧ st'.h.le st.h ∧ h0.le st'.h ∧ st'.wf = true ∧ l.Nodup ∧ rowsLt l.length st'.p = true

section
variable {l : List Nat} {ρ : Rho}
theorem SC.ren_conc (x : SC) : (x.ren l).conc ρ = x.conc (fun r => ρ (rn l r)) := by cases x <;> rfl
theorem SV.ren_conc (x : SV) : (x.ren l).conc ρ = x.conc (fun r => ρ (rn l r)) := by
  cases x with
  | c x => exact SC.ren_conc x
  | g cs => simp only [SV.ren, conc_g, List.map_map]; congr 2; exact List.map_congr_left fun x _ => SC.ren_conc x
theorem look_renE {t : Nat} {c : Bool} {sv : SV} : ∀ {e : Env}, look t e = some (c, sv) → look t (renE l e) = some (c, sv.ren l)
  | [], h => by cases h
  | (k, c', sv') :: e, h => by
    simp only [renE, look] at h ⊢
    split at h
    · rename_i hk; rw [if_pos hk]; simp only [Option.some.injEq, Prod.mk.injEq] at h; rw [h.1, h.2]
    · rename_i hk; rw [if_neg hk]; exact look_renE h
theorem rn_get : ∀ {l : List Nat} {r : Nat}, r < l.length → l[r]? = some (rn l r)
  | [], r, h => by simp at h
  | a :: l, 0, _ => rfl
  | a :: l, r + 1, h => by simpa [rn] using rn_get (l := l) (r := r) (by simpa using h)
theorem rn_inj (hn : l.Nodup) {r r' : Nat} (hr : r < l.length) (hr' : r' < l.length) (h : rn l r = rn l r') : r = r' := by
  have h1 := rn_get hr
  have h2 := rn_get hr'
  rw [h, ← h2] at h1
  exact (List.getElem?_inj hr hn).1 h1
theorem look_renP (hn : l.Nodup) {r : Nat} {b : PB} : ∀ {p : List (Nat × PB)}, rowsLt l.length p = true → look r p = some b → r < l.length ∧ look (rn l r) (renP l p) = some (b.ren l)
  | [], _, h => by cases h
  | (k, b') :: p, hl, h => by
    simp only [rowsLt, Bool.and_eq_true, decide_eq_true_eq] at hl
    simp only [renP, look] at h ⊢
    split at h
    · rename_i hk; subst hk; simp only [Option.some.injEq] at h; rw [if_pos rfl, h]; exact ⟨hl.1, rfl⟩
    · rename_i hk
      obtain ⟨h1, h2⟩ := look_renP hn hl.2 h
      rw [if_neg (fun e => hk (rn_inj hn hl.1 h1 e))]
      exact ⟨h1, h2⟩
theorem PB.ok_ren {W : World} {r : Nat} {b : PB} (h : (b.ren l).ok 0 ρ (rn l r) W) : b.ok 0 (fun r => ρ (rn l r)) r W := by
  cases b with
  | box ty cs =>
    obtain ⟨g, h1, h2, h3⟩ := h
    refine ⟨g, h1, h2, ?_⟩
    rw [h3, List.map_map]
    congr 3
    exact List.map_congr_left fun x _ => SC.ren_conc x
  | row => exact h
theorem Conc.weakenG {W0 : Base} {h0 : Hp} {N : Nat} {st st' : St} {a : Act} {W : World} (h : st.leG l h0 st') (hC : Conc W0 h0 N st a W) : Conc W0 h0 N st' a W := by
  obtain ⟨h1, h2, h3, h4, h5, h6, h7⟩ := h
  obtain ⟨ρ, hf, hW, hw⟩ := hC
  have hp : ∀ r b, look r st'.p = some b → r < l.length ∧ look (rn l r) st.p = some (b.ren l) := fun r b hr => by
    obtain ⟨k1, k2⟩ := look_renP h6 h7 hr
    exact ⟨k1, leP_look h2 _ _ k2⟩
  refine ⟨fun r => ρ (rn l r), ⟨hf.1, hf.2.1, fun t c sv hl => ?_⟩, ?_, h5⟩
  · rw [hf.2.2 t c _ (leE_look h1 t _ (look_renE hl)), SV.ren_conc]
  · refine ⟨hW.below, fun b o hb => hW.sees b o (h3 b o hb), fun b o hb _ => h4 b o hb, fun b o hb hn => hW.new b o (h3 b o hb) hn, fun r b g hr hat => ?_, fun r b hr => ?_, fun r b g hr hat => ?_, fun r b r' b' g hr hr' hat hat' => ?_⟩
    · exact hW.own (rn l r) _ g (hp r b hr).2 hat
    · exact PB.ok_ren (hW.priv _ _ (hp r b hr).2)
    · cases hh : st'.h g with
      | none => rfl
      | some o => have := hW.apart (rn l r) _ g (hp r b hr).2 hat; rw [h3 g o hh] at this; cases this
    · exact rn_inj h6 (hp r b hr).1 (hp r' b' hr').1 (hW.distinct _ _ _ _ g (hp r b hr).2 (hp r' b' hr').2 hat hat')
end
section
variable {x : Cx} {st : St} {Q : Exit → St → Prop}
theorem T_weakenG {st' : St} {c : Code} (l : List Nat) (hle : st.leG l x.h0 st') (h : T x st' c Q) : T x st c Q := by
  unfold T at *
  exact fun a W hC => h a W (hC.weakenG hle)
/-- A loop whose rounds may give the private blocks other numbers, and forget seen ones. -/
theorem T_loopG {ι : Type} {c : Code} (S : ι → St) (ok : ι → Prop) (m : ι → Nat) (i0 : ι) (h0 : ok i0) (l0 : List Nat) (hle : st.leG l0 x.h0 (S i0))
    (hr : ∀ i, ok i → T x (S i) c (qthen (fun st' => ∃ j l, ok j ∧ m j < m i ∧ st'.leG l x.h0 (S j)) Q)) : T x st (.loop c) Q := by
  unfold T at *
  intro a W hC
  refine wp_loopI (fun i a' W' => ok i ∧ Conc x.W0 x.h0 x.N (S i) a' W') m ?_ i0 a W ⟨h0, hC.weakenG hle⟩
  rintro i a W ⟨hi, hC⟩
  refine Code.wp_mono ?_ (hr i hi a W hC)
  rintro e a' W' ⟨st', hq, hC'⟩
  cases e with
  | normal =>
    obtain ⟨j, l, hj, hlt, hle⟩ := hq
    exact ⟨j, hlt, hj, hC'.weakenG hle⟩
  | _ => exact ⟨st', hq, hC'⟩
end
section
variable {l : List Nat} {r o n t a : Nat} {c : Bool} {sv : SV} {e : Env} {p : List (Nat × PB)} {b : PB} {x : SC} {cs : List SC} {h0 : Hp} {st st' : St}
@[go_sem] theorem ev_leG : st.leG l h0 st' = (leE st.e (renE l st'.e) ∧ leP st.p (renP l st'.p) ∧ st'.h.le st.h ∧ h0.le st'.h ∧ st'.wf = true ∧ l.Nodup ∧ rowsLt l.length st'.p = true) := rfl
@[go_sem] theorem ev_leF : st.leF h0 st' = (leE st.e st'.e ∧ leP st.p st'.p ∧ st'.h.le st.h ∧ h0.le st'.h ∧ st'.wf = true) := rfl
@[go_sem] theorem ev_rn0 : rn (a :: l) 0 = a := rfl
@[go_sem] theorem ev_rnS : rn (a :: l) (n + 1) = rn l n := rfl
@[go_sem] theorem ev_renE0 : renE l [] = [] := rfl
@[go_sem] theorem ev_renES : renE l ((t, c, sv) :: e) = (t, c, sv.ren l) :: renE l e := rfl
@[go_sem] theorem ev_renP0 : renP l [] = [] := rfl
@[go_sem] theorem ev_renPS : renP l ((r, b) :: p) = (rn l r, b.ren l) :: renP l p := rfl
@[go_sem] theorem ev_renc : SV.ren l (.c x) = .c (x.ren l) := rfl
@[go_sem] theorem ev_reng : SV.ren l (.g cs) = .g (cs.map (·.ren l)) := rfl
@[go_sem] theorem ev_renv {y : Value} : SC.ren l (.v y) = .v y := rfl
@[go_sem] theorem ev_rens : SC.ren l (.s r) = .s (rn l r) := rfl
@[go_sem] theorem ev_renp : SC.ren l (.p r o) = .p (rn l r) o := rfl
@[go_sem] theorem ev_renbox {ty : TypeId} : PB.ren l (.box ty cs) = .box ty (cs.map (·.ren l)) := rfl
@[go_sem] theorem ev_renrow {e : TypeId} {sz n : Nat} {xs : List Value} : PB.ren l (.row e sz n xs) = .row e sz n xs := rfl
@[go_sem] theorem ev_rl0 : rowsLt n [] = true := rfl
@[go_sem] theorem ev_rlS : rowsLt n ((r, b) :: p) = (decide (r < n) && rowsLt n p) := rfl
@[go_sem] theorem ev_nd0 : ([] : List Nat).Nodup = True := eq_true List.nodup_nil
@[go_sem] theorem ev_nd1 : [a].Nodup = True := eq_true (by simp)
@[go_sem] theorem ev_ndS : (a :: l).Nodup = (a ∉ l ∧ l.Nodup) := by simp
@[go_sem] theorem ev_hle {h : Hp} : h.le h = True := eq_true (Hp.le_refl h)
@[go_sem] theorem ev_len0 : ([] : List Nat).length = 0 := rfl
@[go_sem] theorem ev_lenS : (a :: l).length = l.length + 1 := rfl
end
end Go.SL
