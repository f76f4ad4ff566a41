/- Plain theorems about the model: a symbolic state, its evaluation and its soundness. No condition; nothing of the program is named. -/
import Derived.Test.YtfbdafdbinbeaaaSL16
set_option linter.unusedVariables false
set_option linter.unusedSimpArgs false
namespace Go.SL
open Go Go.RowKit

/-! ### a private row becomes a seen slice -/
def SC.sub (r : Nat) (v : Value) : SC → SC
  | .v x => .v x
  | .s r' => if r' = r then .v v else .s r'
  | .p r' o => if r' = r then .v (.pointer (some ⟨blk v, o, none⟩)) else .p r' o
def SV.sub (r : Nat) (v : Value) : SV → SV
  | .c x => .c (x.sub r v)
  | .g cs => .g (cs.map (·.sub r v))
def subE (r : Nat) (v : Value) : Env → Env
  | [] => []
  | (t, c, sv) :: e => (t, c, sv.sub r v) :: subE r v e
def PB.sub (r : Nat) (v : Value) : PB → PB
  | .box ty cs => .box ty (cs.map (·.sub r v))
  | .row e sz n xs => .row e sz n xs
def subP (r : Nat) (v : Value) : List (Nat × PB) → List (Nat × PB)
  | [] => []
  | (k, b) :: p => (k, b.sub r v) :: subP r v p
def St.sub (st : St) (r : Nat) (v : Value) (h' : Hp) : St := ⟨subE r v st.e, subP r v (dropP r st.p), h', st.nx⟩

section
variable {r : Nat} {v : Value} {ρ : Rho} {n : Nat}
theorem SC.sub_conc (hv : ρ r = v) (x : SC) : (x.sub r v).conc ρ = x.conc ρ := by
  cases x with
  | v x => rfl
  | s r' => simp only [SC.sub]; split <;> simp_all
  | p r' o => simp only [SC.sub]; split <;> simp_all
theorem SV.sub_conc (hv : ρ r = v) (x : SV) : (x.sub r v).conc ρ = x.conc ρ := by
  cases x with
  | c x => exact SC.sub_conc hv x
  | g cs => simp only [SV.sub, conc_g, List.map_map]; congr 2; exact List.map_congr_left fun x _ => SC.sub_conc hv x
theorem SC.sub_lt {x : SC} (h : x.lt n = true) : (x.sub r v).lt n = true := by
  cases x with
  | v x => rfl
  | s r' => simp only [SC.sub]; split <;> first | rfl | exact h
  | p r' o => simp only [SC.sub]; split <;> first | rfl | exact h
theorem SV.sub_lt {x : SV} (h : x.lt n = true) : (x.sub r v).lt n = true := by
  cases x with
  | c x => exact SC.sub_lt h
  | g cs =>
    simp only [SV.sub, SV.lt, List.all_eq_true, List.mem_map] at h ⊢
    rintro _ ⟨y, hy, rfl⟩
    exact SC.sub_lt (h y hy)
theorem look_subE {t : Nat} {c : Bool} {sv' : SV} : ∀ {e : Env}, look t (subE r v e) = some (c, sv') → ∃ sv, look t e = some (c, sv) ∧ sv' = sv.sub r v
  | [], h => by cases h
  | (k, c', sv) :: e, h => by
    simp only [subE, look] at h ⊢
    split at h
    · rename_i hk; rw [if_pos hk]; simp only [Option.some.injEq, Prod.mk.injEq] at h; exact ⟨sv, by rw [h.1], h.2.symm⟩
    · rename_i hk; rw [if_neg hk]; exact look_subE h
theorem look_subP {t : Nat} {b' : PB} : ∀ {p : List (Nat × PB)}, look t (subP r v p) = some b' → ∃ b, look t p = some b ∧ b' = b.sub r v
  | [], h => by cases h
  | (k, b) :: e, h => by
    simp only [subP, look] at h ⊢
    split at h
    · rename_i hk; rw [if_pos hk]; simp only [Option.some.injEq] at h; exact ⟨b, rfl, h.symm⟩
    · rename_i hk; rw [if_neg hk]; exact look_subP h
theorem envLt_sub : ∀ {e : Env}, envLt n e = true → envLt n (subE r v e) = true
  | [], _ => rfl
  | (k, c, sv) :: e, h => by
    simp only [envLt, Bool.and_eq_true, subE] at h ⊢
    exact ⟨SV.sub_lt h.1, envLt_sub h.2⟩
theorem pbLt_sub : ∀ {p : List (Nat × PB)}, pbLt n p = true → pbLt n (subP r v p) = true
  | [], _ => rfl
  | (k, b) :: e, h => by
    simp only [pbLt, Bool.and_eq_true, subP] at h ⊢
    refine ⟨⟨h.1.1, ?_⟩, pbLt_sub h.2⟩
    cases b with
    | box ty cs =>
      have := h.1.2
      simp only [PB.sub, PB.lt, List.all_eq_true, List.mem_map] at this ⊢
      rintro _ ⟨y, hy, rfl⟩
      exact SC.sub_lt (this y hy)
    | row => rfl
theorem PB.ok_sub {base k : Nat} {W : World} {b : PB} (hv : ρ r = v) (h : b.ok base ρ k W) : (b.sub r v).ok base ρ k W := by
  cases b with
  | box ty cs =>
    obtain ⟨g, h1, h2, h3⟩ := h
    refine ⟨g, h1, h2, ?_⟩
    rw [h3, List.map_map]
    congr 3
    exact List.map_congr_left fun x _ => (SC.sub_conc hv x).symm
  | row => exact h
end

def Pub (h : Hp) (e : TypeId) (sz n : Nat) (xs : List Value) (ad : Option Addr) (cap : Nat) (h' : Hp) : Prop :=
  xs.length = n * sz ∧ n ≤ cap ∧ cap ≤ maxLen ∧ ((ad = none ∧ n = 0 ∧ cap = 0 ∧ h' = h) ∨ ∃ g cur, ad = some ⟨g, 0, none⟩ ∧ h g = none ∧ h' = h.ins g (.cells cur e (0, 0)) ∧ cur.size = cap * sz ∧ cur.toList.take (n * sz) = xs)

theorem Conc.pub {W0 : Base} {h0 : Hp} {N : Nat} {st : St} {a : Act} {W : World} {r : Nat} {e : TypeId} {sz n : Nat} {xs : List Value} (hr : look r st.p = some (.row e sz n xs)) (hC : Conc W0 h0 N st a W) :
    ∃ ad cap h', Pub st.h e sz n xs ad cap h' ∧ Conc W0 h0 N (st.sub r (.slice ad n cap) h') a W := by
  obtain ⟨ρ, hf, hW, hw⟩ := hC
  have hown := hW.priv r _ hr
  obtain ⟨hl, hown⟩ := hown
  have hsub : ∀ {v : Value} {k b'}, look k (subP r v (dropP r st.p)) = some b' → ∃ b, look k st.p = some b ∧ k ≠ r ∧ b' = b.sub r v := by
    intro v k b' hk
    obtain ⟨b, h1, h2⟩ := look_subP hk
    exact ⟨b, (look_dropP h1).1, (look_dropP h1).2, h2⟩
  have hwf : ∀ v h', (st.sub r v h').wf = true := by
    intro v h'
    simp only [St.wf, St.sub, Bool.and_eq_true]
    exact ⟨envLt_sub (wf_e hw), pbLt_sub (pbLt_dropP (wf_p hw))⟩
  have hfo : ∀ v, ρ r = v → FOk N ρ (subE r v st.e) a := by
    intro v hv
    refine ⟨hf.1, hf.2.1, fun t c sv hl => ?_⟩
    obtain ⟨sv0, h1, rfl⟩ := look_subE hl
    rw [SV.sub_conc hv]
    exact hf.2.2 t c sv0 h1
  rcases hown with ⟨hv, hn⟩ | ⟨g, cap, cur, hv, hb, hg, hcap, hmax, hsz, htk⟩
  · subst hn
    refine ⟨none, 0, st.h, ⟨hl, Nat.le_refl _, Nat.zero_le _, .inl ⟨rfl, rfl, rfl, rfl⟩⟩, ρ, hfo _ hv, ?_, hwf _ _⟩
    refine ⟨hW.below, hW.sees, hW.ext, hW.new, fun k b' g hk hat => ?_, fun k b' hk => ?_, fun k b' g hk hat => ?_, fun k b k' b' g hk hk' h1 h2 => ?_⟩
    · obtain ⟨b, h1, _, rfl⟩ := hsub hk
      exact hW.own k b g h1 hat
    · obtain ⟨b, h1, _, rfl⟩ := hsub hk
      exact PB.ok_sub hv (hW.priv k b h1)
    · obtain ⟨b, h1, _, rfl⟩ := hsub hk
      exact hW.apart k b g h1 hat
    · obtain ⟨b, h3, _, rfl⟩ := hsub hk
      obtain ⟨b2, h4, _, rfl⟩ := hsub hk'
      exact hW.distinct k b k' b2 g h3 h4 h1 h2
  · have hatr : PB.at ρ r g := .inr ⟨n, cap, hv⟩
    have hgn := hW.apart r _ g hr hatr
    refine ⟨some ⟨g, 0, none⟩, cap, st.h.ins g (.cells cur e (0, 0)), ⟨hl, hcap, hmax, .inr ⟨g, cur, rfl, hgn, rfl, hsz, htk⟩⟩, ρ, hfo _ hv, ?_, hwf _ _⟩
    refine ⟨hW.below, fun b o hb' => ?_, fun b o h1 h2 => Hp.ins_le hgn b o (hW.ext b o h1 h2), fun b o hb' h0b => ?_, fun k b' g' hk hat => ?_, fun k b' hk => ?_, fun k b' g' hk hat => ?_, fun k b k' b' g hk hk' h1 h2 => ?_⟩
    · simp only [St.sub, Hp.ins] at hb'
      split at hb'
      · rename_i e; subst e; simp only [Option.some.injEq] at hb'; rw [← hb']; exact hg
      · exact hW.sees b o hb'
    · simp only [St.sub, Hp.ins] at hb'
      split at hb'
      · rename_i e; subst e; exact hW.own r _ _ hr hatr
      · exact hW.new b o hb' h0b
    · obtain ⟨b, h1, _, rfl⟩ := hsub hk
      exact hW.own k b g' h1 hat
    · obtain ⟨b, h1, _, rfl⟩ := hsub hk
      exact PB.ok_sub hv (hW.priv k b h1)
    · obtain ⟨b, h1, hne, rfl⟩ := hsub hk
      simp only [St.sub, Hp.ins]
      split
      · rename_i e; subst e
        exact (hne (hW.distinct k b r _ g' h1 hr hat hatr)).elim
      · exact hW.apart k b g' h1 hat
    · obtain ⟨b, h3, _, rfl⟩ := hsub hk
      obtain ⟨b2, h4, _, rfl⟩ := hsub hk'
      exact hW.distinct k b k' b2 g h3 h4 h1 h2

theorem T_pub {x : Cx} {st : St} {c : Code} {Q : Exit → St → Prop} (r : Nat) {e : TypeId} {sz n : Nat} {xs : List Value} (hr : look r st.p = some (.row e sz n xs))
    (h : ∀ ad cap h', Pub st.h e sz n xs ad cap h' → T x (st.sub r (.slice ad n cap) h') c Q) : T x st c Q := by
  unfold T at *
  intro a W hC
  obtain ⟨ad, cap, h', hp, hC'⟩ := hC.pub hr
  exact h ad cap h' hp a W hC'

/-- The new slice, with what it holds. -/
def Fresh (h _h' : Hp) (ad : Option Addr) : Prop := ∀ a, ad = some a → h a.block = none ∧ a.off = 0 ∧ a.spot = none
/-- Between h and h' no other block is new. -/
def Only (h h' : Hp) (ad : Option Addr) : Prop := ∀ b, (∀ a, ad = some a → a.block ≠ b) → h' b = h b
theorem Pub.le {h h' : Hp} {e : TypeId} {sz n : Nat} {xs : List Value} {ad : Option Addr} {cap : Nat} (H : Pub h e sz n xs ad cap h') : h.le h' := by
  rcases H.2.2.2 with ⟨_, _, _, rfl⟩ | ⟨g, cur, _, hg, rfl, _⟩
  · exact Hp.le_refl _
  · exact Hp.ins_le hg
theorem Pub.fresh {h h' : Hp} {e : TypeId} {sz n : Nat} {xs : List Value} {ad : Option Addr} {cap : Nat} (H : Pub h e sz n xs ad cap h') : Fresh h h' ad ∧ Only h h' ad := by
  rcases H.2.2.2 with ⟨rfl, _, _, rfl⟩ | ⟨g, cur, rfl, hg, rfl, _⟩
  · exact ⟨fun a e => by (cases e), fun b _ => rfl⟩
  · refine ⟨fun a e => by cases e; exact ⟨hg, rfl, rfl⟩, fun b hb => ?_⟩
    have := hb _ rfl
    simp only [Hp.ins]
    rw [if_neg (Ne.symm this)]
theorem Pub.sl {α : Type} [Enc α] {h h' : Hp} {e : TypeId} {l : List α} {ad : Option Addr} {cap : Nat} (hp : 0 < Enc.size α) (H : Pub h e (Enc.size α) l.length (l.flatMap Enc.enc) ad cap h') (hok : ∀ x ∈ l, Enc.ok h x) : (Sl.mk ad cap l).Ok h' := by
  have hle := H.le
  obtain ⟨h1, h2, h3, h4⟩ := H
  refine ⟨h2, fun hne => ?_, fun i x hx => ?_, fun x hx => Enc.mono hle (hok x hx), h3⟩
  · rcases h4 with ⟨_, hn, _⟩ | ⟨g, cur, rfl, _⟩
    · exact absurd (List.length_eq_zero_iff.1 hn) hne
    · rfl
  · have hi : i < l.length := (List.getElem?_eq_some_iff.1 hx).1
    rcases h4 with ⟨_, hn, _⟩ | ⟨g, cur, rfl, hg, rfl, hsz, htk⟩
    · omega
    · refine cellsAt_mk (Enc.len x) fun j v hj => ?_
      have hjl : j < Enc.size α := by rw [← Enc.len x]; exact (List.getElem?_eq_some_iff.1 hj).1
      have hfl : (l.flatMap Enc.enc)[i * Enc.size α + j]? = some v := by
        rw [flat_get Enc.len hp]
        have e1 : (i * Enc.size α + j) / Enc.size α = i := by rw [Nat.add_comm, Nat.add_mul_div_right _ _ hp, Nat.div_eq_of_lt hjl, Nat.zero_add]
        have e2 : (i * Enc.size α + j) % Enc.size α = j := by rw [Nat.add_comm, Nat.add_mul_mod_self_right, Nat.mod_eq_of_lt hjl]
        rw [e1, e2, hx]
        exact hj
      have hlt : i * Enc.size α + j < l.length * Enc.size α := by
        have : (i + 1) * Enc.size α ≤ l.length * Enc.size α := Nat.mul_le_mul_right _ hi
        rw [Nat.add_mul, Nat.one_mul] at this
        omega
      rw [← htk, List.getElem?_take, if_pos hlt] at hfl
      simp only [Option.map_some]
      rw [add_add', Nat.zero_add]
      have e3 : (Addr.add ⟨g, 0, none⟩ (i * Enc.size α + j)) = ⟨g, i * Enc.size α + j, none⟩ := by rw [add_mk]; simp
      rw [e3]
      simp only [Hp.cell, Hp.ins, if_true, Option.isSome_none, Bool.false_eq_true, if_false]
      simpa using hfl
theorem T_pubS {α : Type} [Enc α] {x : Cx} {st : St} {c : Code} {Q : Exit → St → Prop} (r : Nat) {e : TypeId} (l : List α) {sz n : Nat} {xs : List Value} (hr : look r st.p = some (.row e sz n xs)) (hsz : sz = Enc.size α) (hn : n = l.length) (hxs : xs = l.flatMap Enc.enc) (hp : 0 < Enc.size α)
    (hok : ∀ x ∈ l, Enc.ok st.h x) (h : ∀ (s : Sl α) h', s.l = l → s.Ok h' → st.h.le h' → Fresh st.h h' s.a → Only st.h h' s.a → T x (st.sub r s.val h') c Q) : T x st c Q := by
  subst hsz hn hxs
  refine T_pub r hr fun ad cap h' H => ?_
  exact h ⟨ad, cap, l⟩ h' rfl (H.sl hp hok) H.le H.fresh.1 H.fresh.2

section
variable {r r' o t : Nat} {v : Value} {c : Bool} {sv : SV} {e : Env} {p : List (Nat × PB)} {h h' : Hp} {nx : Nat} {x : SC} {cs : List SC}
@[go_sem] theorem ev_stsub : St.sub ⟨e, p, h, nx⟩ r v h' = ⟨subE r v e, subP r v (dropP r p), h', nx⟩ := rfl
@[go_sem] theorem ev_subE0 : subE r v [] = [] := rfl
@[go_sem] theorem ev_subES : subE r v ((t, c, sv) :: e) = (t, c, sv.sub r v) :: subE r v e := rfl
@[go_sem] theorem ev_subP0 : subP r v [] = [] := rfl
@[go_sem] theorem ev_subPS {b : PB} : subP r v ((t, b) :: p) = (t, b.sub r v) :: subP r v p := rfl
@[go_sem] theorem ev_subc : SV.sub r v (.c x) = .c (x.sub r v) := rfl
@[go_sem] theorem ev_subg : SV.sub r v (.g cs) = .g (cs.map (·.sub r v)) := rfl
@[go_sem] theorem ev_subv {y : Value} : SC.sub r v (.v y) = .v y := rfl
@[go_sem] theorem ev_subs : SC.sub r v (.s r) = .v v := by simp [SC.sub]
@[go_sem] theorem ev_subs' (h : (r' == r) = false) : SC.sub r v (.s r') = .s r' := by
  have : r' ≠ r := by simpa using h
  simp [SC.sub, this]
@[go_sem] theorem ev_subp : SC.sub r v (.p r o) = .v (.pointer (some ⟨blk v, o, none⟩)) := by simp [SC.sub]
@[go_sem] theorem ev_subp' (h : (r' == r) = false) : SC.sub r v (.p r' o) = .p r' o := by
  have : r' ≠ r := by simpa using h
  simp [SC.sub, this]
@[go_sem] theorem ev_subbox {ty : TypeId} : PB.sub r v (.box ty cs) = .box ty (cs.map (·.sub r v)) := rfl
@[go_sem] theorem ev_subrow {e : TypeId} {sz n : Nat} {xs : List Value} : PB.sub r v (.row e sz n xs) = .row e sz n xs := rfl
end
end Go.SL
