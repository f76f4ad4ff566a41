/- Plain theorems about the model: a symbolic state, its evaluation and its soundness. No condition; nothing of the program is named. -/
import Derived.Test.YtfbdafdbinbeaaaSL13
import Derived.OrdersHeld
set_option linter.unusedVariables false
set_option linter.unusedSimpArgs false
namespace Go.SL
open Go Go.RowKit

/-! ### regions whose order is open -/
def isQ : Op → Bool
  | .move _ | .assign _ | .pick .. | .load .. | .nilCheck _ | .binOp .. | .unOp .. | .convert .. | .fieldAddr .. | .field .. | .indexAddr .. | .index .. | .extract .. => true
  | .call c => match c.callee with
    | .builtin .len => true
    | _ => false
  | _ => false
def isB' : Op → Bool
  | .defer _ | .go _ | .select .. => false
  | _ => true

section
variable {P : Program} {W0 : Base} {h0 : Hp} {N : Nat} {st : St} {g : Bool}

theorem vopG_q {o : Oper} {op : Op} {K : St → Prop} (hq : isQ op = true) (h : vopG P st o g op K) : vq P st g op fun sv => K (st.put o.dst g sv) := by
  cases op <;> simp only [isQ] at hq <;> first | exact h | cases hq | skip
  case call c =>
    obtain ⟨callee, args, ats⟩ := c
    simp only at hq
    split at hq
    · subst_vars
      exact h
    · cases hq

abbrev Tk := Oper × Value × Act
def SD (P : Program) (ops : Array Oper) (D : List Tk) (W : World) : Prop :=
  ∀ t ∈ D, Region.wanted t.1 (yielded ops t.2.2.tmps) = true → (execOp t.2.2.eval t.1).run P W = .ok (.value t.2.1) W
def FrD (ops : Array Oper) (D : List Tk) (a : Act) : Prop :=
  ∀ t ∈ D, execOp a.eval t.1 = execOp t.2.2.eval t.1 ∧ Region.wanted t.1 (yielded ops a.tmps) = Region.wanted t.1 (yielded ops t.2.2.tmps) ∧ ∀ d, t.1.dst = some d → a.tmps[d]? = some t.2.1

def noSel (o : Oper) : Bool := match o.op with | .select .. => false | _ => true
theorem noSel_spec {o : Oper} (h : noSel o = true) : ∀ cs b, o.op ≠ .select cs b := by
  intro cs b e; simp [noSel, e] at h

theorem put_other {a : Act} {dst : Option Tmp} {v : Value} {d : Tmp} (h : dst ≠ some d) : (a.put dst v).tmps[d]? = a.tmps[d]? := by
  cases dst with
  | none => rfl
  | some e =>
    have : e ≠ d := fun x => h (by rw [x])
    simp [Act.put, Array.getElem?_setIfInBounds_ne this]
def later (ops : Array Oper) (k o : Oper) : Bool := match o.dst with
  | some d => !(k.looksAt ops).contains d && k.dst != some d
  | none => true
theorem later_spec {ops : Array Oper} {k o : Oper} (h : later ops k o = true) : (∀ d, k.dst = some d → o.dst ≠ some d) ∧ (∀ d, o.dst = some d → d ∉ k.looksAt ops) := by
  unfold later at h
  refine ⟨fun d hd e => ?_, fun d hd => ?_⟩
  · simp [e, hd] at h
  · simp [hd] at h; exact h.1
theorem FrD.put {ops : Array Oper} {D : List Tk} {a : Act} {o : Oper} {u : Value} (h : FrD ops D a) (hs : ∀ t ∈ D, noSel t.1 = true ∧ later ops t.1 o = true) : FrD ops D (a.put o.dst u) := by
  intro t ht
  obtain ⟨h1, h2, h3⟩ := h t ht
  obtain ⟨s1, s2⟩ := hs t ht
  obtain ⟨a2, a3⟩ := later_spec s2
  refine ⟨by rw [execOp_put t.1 (noSel_spec s1) a o.dst u a3, h1], by rw [wanted_put t.1 a o.dst u a3, h2], fun d hd => ?_⟩
  rw [put_other (fun e => a2 d hd e)]
  exact h3 d hd
theorem FrD.defers {ops : Array Oper} {D : List Tk} {a : Act} {ds : List Deferred} (h : FrD ops D a) : FrD ops D { a with defers := ds } := h

def dstE (o : Oper) (e e' : Env) : Prop :=
  match o.dst with
  | some d => look d e' = look d e
  | none => False
/-- What was taken ahead yields the same now. -/
def vre (P : Program) (ops : List Oper) (st : St) : List Oper → Prop
  | [] => True
  | o :: l => isQ o.op = true ∧ (vop P ops st o fun st' => dstE o st.e st'.e) ∧ vre P ops st l

theorem vre_sound {ops : List Oper} {D : List Tk} {a : Act} {W : World} (hC : Conc W0 h0 N st a W) (hF : FrD ops.toArray D a) (h : vre P ops st (D.map (·.1))) : SD P ops.toArray D W := by
  induction D with
  | nil => intro t ht; cases ht
  | cons t D ih =>
    obtain ⟨hq, h1, h2⟩ := h
    intro t' ht'
    rcases List.mem_cons.1 ht' with rfl | ht'
    · intro hw
      obtain ⟨e1, e2, e3⟩ := hF t' (List.mem_cons_self ..)
      obtain ⟨ρ, hf, hW, hwf⟩ := hC
      obtain ⟨g, h1, hg⟩ := vgd_sound (N := N) (o := t'.1) rfl h1
      replace hg := hg ρ a hf
      obtain ⟨sv, k1, k2, k3⟩ := vq_sound (P := P) (W0 := W0) (h0 := h0) (N := N) hwf (vopG_q hq h1)
      have hg1 : g = true := by rw [← hg, e2]; exact hw
      subst hg1
      have hr := k3 rfl ρ a W hf hW
      rw [e1] at hr
      unfold dstE at k1
      split at k1
      · rename_i d hd
        have hl : look d st.e = some (true, sv) := by
          rw [← k1]
          simp [St.put, envPut, hd, look]
        have := hf.2.2 d true sv hl
        rw [e3 d hd] at this
        simp only [if_true, Option.some.injEq] at this
        rw [hr, this]
      · exact k1.elim
    · exact ih (fun t ht => hF t (List.mem_cons_of_mem _ ht)) h2 t' ht'

theorem wp_put {o : Oper} {K : Act → World → Prop} {Q : Exit → Act → World → Prop} {a : Act} {W : World} (h : o.wp P a W K Q) : o.wp P a W (fun a' W' => (∃ u ds, a' = Act.put { a with defers := ds } o.dst u) ∧ K a' W') Q := by
  unfold Oper.wp at *
  generalize (execOp a.eval o).run P W = r at *
  cases r with
  | ok n w' =>
    cases n <;> simp only [Oper.upon] at h ⊢
    case value u => exact ⟨⟨u, a.defers, rfl⟩, h⟩
    case skip => exact ⟨⟨_, a.defers, rfl⟩, h⟩
    case defer d => exact ⟨⟨_, d :: a.defers, rfl⟩, h⟩
    case enter f args =>
      refine Calls.mono h fun e w'' he => ?_
      cases e with
      | returned u => exact ⟨⟨u, a.defers, rfl⟩, he⟩
      | panicked c => exact he
      | outgrown => exact he
    case row row args => exact Rows.mono h fun u w'' he => ⟨⟨u, a.defers, rfl⟩, he⟩
  | halt x w' => cases x <;> simp only [Oper.upon] at h ⊢ <;> exact h

def QN (x : Cx) (K : St → Prop) : Exit → Act → World → Prop := fun e a W => e = .normal ∧ ∃ st', K st' ∧ Conc x.W0 x.h0 x.N st' a W

@[irreducible] def V (x : Cx) (ops : List Oper) (tk : List Oper) (fuel : Nat) (listed : Array Bool) (st : St) (K : St → Prop) : Prop :=
  ∀ (D : List Tk), D.map (·.1) = tk → ∀ a W, Conc x.W0 x.h0 x.N st a W → FrD ops.toArray D a → SD x.P ops.toArray D W →
    wpAnyH x.P .any ops.toArray (QN x K) (SD x.P ops.toArray D) fuel listed a W

def tkOk (ops : List Oper) (tk : List Oper) (o : Oper) : Bool := tk.all fun k => noSel k && later ops.toArray k o
def ownOk (ops : List Oper) (o : Oper) (N : Nat) : Bool := match o.dst with | some d => decide (d < N) && !(o.looksAt ops.toArray).contains d | none => false
def takeOk (ops : List Oper) (listed : Array Bool) (tk : List Oper) (i : Nat) (o : Oper) (N : Nat) : Bool :=
  Region.noSelect ops.toArray && Region.free .any ops.toArray listed i && (Region.ready .any ops.toArray listed).contains i && isQ o.op && noSel o && ownOk ops o N && tkOk ops tk o

theorem tkOk_spec {ops tk : List Oper} {o : Oper} {D : List Tk} (h : tkOk ops tk o = true) (hD : D.map (·.1) = tk) : ∀ t ∈ D, noSel t.1 = true ∧ later ops.toArray t.1 o = true := by
  intro t ht
  have := List.all_eq_true.1 h t.1 (by rw [← hD]; exact List.mem_map_of_mem ht)
  simpa using this
theorem wpAnyH_mono {md : Region.Mode} {ops : Array Oper} {Q : Exit → Act → World → Prop} {S S' : World → Prop} (hS : ∀ w, S w → S' w) : ∀ (fuel : Nat) (listed : Array Bool) (a : Act) (w : World), wpAnyH P md ops Q S fuel listed a w → wpAnyH P md ops Q S' fuel listed a w
  | 0, _, _, _, h => h
  | fuel + 1, _, _, _, h => ⟨h.1, fun i hi => wpOp_mono (fun a' w' h' => ⟨hS _ h'.1, wpAnyH_mono hS fuel _ a' w' h'.2⟩) (h.2 i hi)⟩

variable {x : Cx} {ops tk : List Oper} {fuel : Nat} {listed : Array Bool} {K : St → Prop}

theorem q_yield {P : Program} {W0 : Base} {h0 : Hp} {N : Nat} {st : St} {o : Oper} {K : St → Prop} (hq : isQ o.op = true) (hwf : st.wf = true) (h : vop P ops st o K) :
    ∃ g sv, K (st.put o.dst g sv) ∧ sv.lt st.nx = true ∧ (g = true → Yv P W0 h0 N st o sv) ∧ ∀ ρ a, FOk N ρ st.e a → Region.wanted o (yielded ops.toArray a.tmps) = g := by
  obtain ⟨g, h, hg⟩ := vgd_sound (N := N) (o := o) rfl h
  obtain ⟨sv, k1, k2, k3⟩ := vq_sound (P := P) (W0 := W0) (h0 := h0) (N := N) hwf (vopG_q hq h)
  exact ⟨g, sv, k1, k2, k3, hg⟩
theorem V_take' (i : Nat) {o : Oper} (hi : ops[i]? = some o) (hok : takeOk ops listed tk i o x.N = true)
    (h : isQ o.op = true → st.wf = true → ∃ g sv, V x ops (o :: tk) fuel (listed.setIfInBounds i true) (st.put o.dst g sv) K ∧ sv.lt st.nx = true ∧ (g = true → Yv x.P x.W0 x.h0 x.N st o sv) ∧ ∀ ρ a, FOk x.N ρ st.e a → Region.wanted o (yielded ops.toArray a.tmps) = g) : V x ops tk (fuel + 1) listed st K := by
  unfold V at *
  intro D hD a W hC hF hS
  simp only [takeOk, Bool.and_eq_true] at hok
  obtain ⟨⟨⟨⟨⟨⟨c1, c2⟩, c3⟩, c4⟩, c5⟩, c6⟩, c7⟩ := hok
  obtain ⟨ρ, hf, hW, hwf⟩ := hC
  obtain ⟨g, sv, k1, k2, k3, hg⟩ := h c4 hwf
  replace hg := hg ρ a hf
  unfold ownOk at c6
  split at c6
  case h_2 => cases c6
  rename_i d hd
  simp only [Bool.and_eq_true, decide_eq_true_eq, Bool.not_eq_true', List.contains_eq_mem, decide_eq_false_iff_not] at c6
  have hi' : ops.toArray[i]? = some o := by simpa using hi
  let v : Value := if g = true then sv.conc ρ else undef
  let D' : List Tk := (o, v, a) :: D
  have hC' : Conc x.W0 x.h0 x.N (st.put o.dst g sv) (a.put o.dst v) W := Conc.put_q hwf (fun d' e => by rw [hd] at e; cases e; exact c6.1) hf hW k2 rfl
  have hown : ∀ d', o.dst = some d' → d' ∉ o.looksAt ops.toArray := fun d' e => by rw [hd] at e; cases e; exact c6.2
  have hF' : FrD ops.toArray D' (a.put o.dst v) := by
    intro t ht
    rcases List.mem_cons.1 ht with rfl | ht
    · refine ⟨execOp_put o (noSel_spec c5) a o.dst v hown, wanted_put o a o.dst v hown, fun d' e => ?_⟩
      simp only at e
      rw [hd] at e; cases e
      have hsz : d < a.tmps.size := by rw [hf.2.1]; exact c6.1
      simp [Act.put, hd, hsz]
    · exact hF.put (tkOk_spec c7 hD) t ht
  have hS' : SD x.P ops.toArray D' W := by
    intro t ht hw
    rcases List.mem_cons.1 ht with rfl | ht
    · have hg1 : g = true := by rw [← hg]; exact hw
      have := k3 hg1 ρ a W hf hW
      simp only [v, hg1, if_true]
      exact this
    · exact hS t ht hw
  have hy : YieldsIf x.P ops.toArray (SD x.P ops.toArray D') o v a := by
    cases hgg : g with
    | true => exact .inl ⟨by rw [hg, hgg], fun w hw => hw (o, v, a) (List.mem_cons_self ..) (by rw [hg, hgg])⟩
    | false => exact .inr ⟨by rw [hg, hgg], by simp [v, hgg]⟩
  have H := k1 D' (by simp [D', hD]) _ W hC' hF' hS'
  refine wpAnyH_mono (fun w hw => fun t ht => hw t (List.mem_cons_of_mem _ ht)) _ _ _ _ (wpAnyH_take hi' c1 c2 c3 ?_ hy hS' H)
  rintro c a' w ⟨e, _⟩
  cases e
def isMv : Op → Bool
  | .move _ | .assign _ => true
  | _ => false
theorem mv_run {ev : Operand → Value} {o : Oper} {v : Value} {W : World} (hm : isMv o.op = true) (h : (execOp ev o).run P W = .ok (.value v) W) (W' : World) : (execOp ev o).run P W' = .ok (.value v) W' := by
  obtain ⟨dst, op, ty, pos, af, gd⟩ := o
  cases op <;> simp only [isMv] at hm <;> first | cases hm | skip
  · simp only [execOp, Sem.run_pure] at h ⊢
    simpa using h
  · simp only [execOp, Sem.run_pure] at h ⊢
    simpa using h
/-- A copy of a slot yields the same in every world: it need not be kept in mind. -/
theorem V_takeM' (i : Nat) {o : Oper} (hi : ops[i]? = some o) (hok : takeOk ops listed tk i o x.N = true) (hm : isMv o.op = true)
    (h : isQ o.op = true → st.wf = true → ∃ g sv, V x ops tk fuel (listed.setIfInBounds i true) (st.put o.dst g sv) K ∧ sv.lt st.nx = true ∧ (g = true → Yv x.P x.W0 x.h0 x.N st o sv) ∧ ∀ ρ a, FOk x.N ρ st.e a → Region.wanted o (yielded ops.toArray a.tmps) = g) : V x ops tk (fuel + 1) listed st K := by
  unfold V at *
  intro D hD a W hC hF hS
  simp only [takeOk, Bool.and_eq_true] at hok
  obtain ⟨⟨⟨⟨⟨⟨c1, c2⟩, c3⟩, c4⟩, c5⟩, c6⟩, c7⟩ := hok
  obtain ⟨ρ, hf, hW, hwf⟩ := hC
  obtain ⟨g, sv, k1, k2, k3, hg⟩ := h c4 hwf
  replace hg := hg ρ a hf
  unfold ownOk at c6
  split at c6
  case h_2 => cases c6
  rename_i d hd
  simp only [Bool.and_eq_true, decide_eq_true_eq, Bool.not_eq_true', List.contains_eq_mem, decide_eq_false_iff_not] at c6
  have hi' : ops.toArray[i]? = some o := by simpa using hi
  let v : Value := if g = true then sv.conc ρ else undef
  have hC' : Conc x.W0 x.h0 x.N (st.put o.dst g sv) (a.put o.dst v) W := Conc.put_q hwf (fun d' e => by rw [hd] at e; cases e; exact c6.1) hf hW k2 rfl
  have hF' : FrD ops.toArray D (a.put o.dst v) := hF.put (tkOk_spec c7 hD)
  have hy : YieldsIf x.P ops.toArray (SD x.P ops.toArray D) o v a := by
    cases hgg : g with
    | true =>
      refine .inl ⟨by rw [hg, hgg], fun w hw => ?_⟩
      have := k3 hgg ρ a W hf hW
      simp only [v, hgg, if_true]
      exact mv_run hm this w
    | false => exact .inr ⟨by rw [hg, hgg], by simp [v, hgg]⟩
  have H := k1 D hD _ W hC' hF' hS
  refine wpAnyH_take hi' c1 c2 c3 ?_ hy hS H
  rintro c a' w ⟨e, _⟩
  cases e
theorem V_take (i : Nat) {o : Oper} (hi : ops[i]? = some o) (hok : takeOk ops listed tk i o x.N = true)
    (h : vop x.P ops st o fun st' => V x ops (o :: tk) fuel (listed.setIfInBounds i true) st' K) : V x ops tk (fuel + 1) listed st K :=
  V_take' i hi hok fun hq hwf => q_yield hq hwf h

def onO (x : Option Oper) (K : Oper → Prop) : Prop :=
  match x with
  | some o => K o
  | none => False
def vbr (x : Cx) (ops tk : List Oper) (fuel : Nat) (listed : Array Bool) (st : St) (K : St → Prop) : List Nat → Prop
  | [] => True
  | i :: rs => (onO ops[i]? fun o => vop x.P ops st o fun st' => vre x.P ops st' tk ∧ V x ops tk fuel (listed.setIfInBounds i true) st' K) ∧ vbr x ops tk fuel listed st K rs
def brOk (ops tk : List Oper) (N : Nat) (rs : List Nat) : Bool := rs.all fun i => match ops[i]? with
  | some o => tkOk ops tk o && (match o.dst with | some d => decide (d < N) | none => true)
  | none => false

theorem V_branch (rs : List Nat) (hr : Region.ready .any ops.toArray listed = rs) (hok : (!rs.isEmpty && brOk ops tk x.N rs) = true)
    (h : vbr x ops tk fuel listed st K rs) : V x ops tk (fuel + 1) listed st K := by
  simp only [Bool.and_eq_true, Bool.not_eq_true'] at hok
  unfold V at *
  intro D hD a W hC hF hS
  refine wpAnyH_all hr (by intro e; rw [e] at hok; simp at hok) fun i hi => ?_
  have hb := List.all_eq_true.1 hok.2 i hi
  clear hok hr
  induction rs with
  | nil => cases hi
  | cons j rs ih =>
    obtain ⟨h1, h2⟩ := h
    rcases List.mem_cons.1 hi with rfl | hi
    · unfold onO at h1
      cases ho : ops[i]? with
      | none => rw [ho] at h1; exact h1.elim
      | some o =>
        rw [ho] at h1 hb
        simp only [Bool.and_eq_true] at h1 hb
        have ho' : ops.toArray[i]? = some o := by simpa using ho
        have hd : ∀ d', o.dst = some d' → d' < x.N := by
          intro d' e
          have := hb.2
          rw [e] at this
          simpa using this
        unfold wpOp
        simp only [ho']
        rcases vop_sound (Q := QN x K) hd h1 hC with ⟨hw, hwp⟩ | ⟨hw, st', ⟨k1, k2⟩, hC'⟩
        · rw [if_pos hw]
          left
          refine Oper.wp_mono ?_ (wp_put hwp)
          rintro a' W' ⟨⟨u, ds, rfl⟩, st', ⟨k1, k2⟩, hC'⟩
          have hF' : FrD ops.toArray D (Act.put { a with defers := ds } o.dst u) := FrD.put (FrD.defers hF) (tkOk_spec hb.1 hD)
          have hS' := vre_sound (P := x.P) hC' hF' (by rw [hD]; exact k1)
          unfold V at k2
          exact ⟨hS', k2 D hD _ W' hC' hF' hS'⟩
        · rw [if_neg (by simp [hw])]
          have hF' : FrD ops.toArray D (a.put o.dst undef) := hF.put (tkOk_spec hb.1 hD)
          have hS' := vre_sound (P := x.P) hC' hF' (by rw [hD]; exact k1)
          unfold V at k2
          exact ⟨hS', k2 D hD _ W hC' hF' hS'⟩
    · exact ih h2 hi

theorem V_done (hr : Region.ready .any ops.toArray listed = []) (h : K st) : V x ops tk fuel listed st K := by
  unfold V
  intro D hD a W hC hF hS
  exact wpAnyH_done hr ⟨rfl, st, h, hC⟩ fuel

theorem Conc.drew {a : Act} {W : World} (h : Conc W0 h0 N st a W) : Conc W0 h0 N st a { W with drawn := W.drawn + 1 } := by
  obtain ⟨ρ, hf, hW, hw⟩ := h
  exact ⟨ρ, hf, hW.grow (h' := st.h) ((Below.refl _ _).drew) (Hp.le_refl _) (fun b o hb => hW.sees b o hb) (fun b o h1 h2 => by rw [h1] at h2; cases h2), hw⟩

theorem T_any {Q : Exit → St → Prop} {id : Nat} (hm : x.P.follows .mixedOrders = true) (h : V x ops [] ops.length (Array.replicate ops.length false) st fun st' => Q .normal st') : T x st (.region id ops.toArray true) Q := by
  unfold T
  unfold V at h
  intro a W hC
  refine Code.wp_mono ?_ (wp_region_held (id := id) (Q := QN x fun st' => Q .normal st') (S := SD x.P ops.toArray []) hm (h [] rfl a _ hC.drew (fun t ht => by cases ht) (fun t ht => by cases ht)))
  rintro e a' W' ⟨rfl, st', hq, hC'⟩
  exact ⟨st', hq, hC'⟩
theorem T_seq_any {Q : Exit → St → Prop} {id : Nat} {d : Code} (hm : x.P.follows .mixedOrders = true) (h : V x ops [] ops.length (Array.replicate ops.length false) st fun st' => T x st' d Q) : T x st (.seq (.region id ops.toArray true) d) Q :=
  T_seq (T_any hm h)
end
def pickO (ops : List Oper) : List Nat → Option (List (Nat × Oper))
  | [] => some []
  | i :: is => match ops[i]?, pickO ops is with
    | some o, some l => some ((i, o) :: l)
    | _, _ => none
def takesOk (ops : List Oper) (N : Nat) : List (Nat × Oper) → Nat → Array Bool → List Oper → Bool
  | [], _, _, _ => true
  | _ :: _, 0, _, _ => false
  | (i, o) :: l, fuel + 1, listed, tk => takeOk ops listed tk i o N && takesOk ops N l fuel (listed.setIfInBounds i true) (if isMv o.op = true then tk else o :: tk)
def tkPut (o : Oper) (tk : List Oper) : List Oper := if isMv o.op = true then tk else o :: tk
def tkAfter : List (Nat × Oper) → List Oper → List Oper
  | [], tk => tk
  | (_, o) :: l, tk => tkAfter l (tkPut o tk)
def listedAfter : List (Nat × Oper) → Array Bool → Array Bool
  | [], listed => listed
  | (i, _) :: l, listed => listedAfter l (listed.setIfInBounds i true)
section
variable {x : Cx} {ops : List Oper} {K : St → Prop}
theorem pickO_spec : ∀ {is : List Nat} {l : List (Nat × Oper)}, pickO ops is = some l → ∀ io ∈ l, ops[io.1]? = some io.2
  | [], l, h, io, hi => by simp only [pickO, Option.some.injEq] at h; subst h; cases hi
  | i :: is, l, h, io, hi => by
    simp only [pickO] at h
    split at h
    · rename_i o l' ho hl
      simp only [Option.some.injEq] at h
      subst h
      rcases List.mem_cons.1 hi with rfl | hi
      · exact ho
      · exact pickO_spec hl io hi
    · cases h
theorem V_takes_aux {K' : St → Prop} : ∀ {l : List (Nat × Oper)} {fuel : Nat} {listed : Array Bool} {tk : List Oper} {st : St}, (∀ io ∈ l, ops[io.1]? = some io.2) → takesOk ops x.N l fuel listed tk = true →
    vops x.P ops (l.map (·.2)) st K' → (∀ st', K' st' → V x ops (tkAfter l tk) (fuel - l.length) (listedAfter l listed) st' K) → V x ops tk fuel listed st K
  | [], fuel, listed, tk, st, _, _, h, hk => hk _ h
  | _ :: _, 0, _, _, _, _, hok, _, _ => by simp [takesOk] at hok
  | (i, o) :: l, fuel + 1, listed, tk, st, hp, hok, h, hk => by
    simp only [takesOk, Bool.and_eq_true] at hok
    by_cases hm : isMv o.op = true
    · refine V_takeM' i (hp _ (List.mem_cons_self ..)) hok.1 hm fun hq hwf => ?_
      obtain ⟨g, sv, k1, k2⟩ := q_yield (W0 := x.W0) (h0 := x.h0) (N := x.N) hq hwf h
      have hok2 := hok.2
      rw [if_pos hm] at hok2
      exact ⟨g, sv, V_takes_aux (fun io hi => hp io (List.mem_cons_of_mem _ hi)) hok2 k1 (fun st' h' => by simpa [tkAfter, tkPut, listedAfter, hm] using hk st' h'), k2⟩
    have hok2 := hok.2
    rw [if_neg hm] at hok2
    refine V_take' i (hp _ (List.mem_cons_self ..)) hok.1 fun hq hwf => ?_
    obtain ⟨g, sv, k1, k2⟩ := q_yield (W0 := x.W0) (h0 := x.h0) (N := x.N) hq hwf h
    exact ⟨g, sv, V_takes_aux (fun io hi => hp io (List.mem_cons_of_mem _ hi)) hok2 k1 (fun st' h' => by simpa [tkAfter, tkPut, listedAfter, hm] using hk st' h'), k2⟩
theorem V_takes (is : List Nat) {l : List (Nat × Oper)} {fuel : Nat} {listed : Array Bool} {tk : List Oper} {st : St} (hp : pickO ops is = some l) (hok : takesOk ops x.N l fuel listed tk = true)
    (h : vops x.P ops (l.map (·.2)) st fun st' => V x ops (tkAfter l tk) (fuel - l.length) (listedAfter l listed) st' K) : V x ops tk fuel listed st K :=
  V_takes_aux (pickO_spec hp) hok h fun _ h => h
/-- Every operation reads only: the order of the text serves. -/
def lexOps (ops : List Oper) : Nat → List Oper → List (Nat × Oper)
  | _, [] => []
  | k, o :: l => (k, o) :: lexOps ops (k + 1) l
def readyOk (ops : List Oper) : Bool := (Region.ready .any ops.toArray (listedAfter (lexOps ops 0 ops) (Array.replicate ops.length false))).isEmpty
theorem lexOps_snd {ops : List Oper} : ∀ {k : Nat} {l : List Oper}, (lexOps ops k l).map (·.2) = l ∧ (lexOps ops k l).length = l.length
  | _, [] => ⟨rfl, rfl⟩
  | k, o :: l => by simp [lexOps, (lexOps_snd (ops := ops) (k := k + 1) (l := l)).1, (lexOps_snd (ops := ops) (k := k + 1) (l := l)).2]
theorem lexOps_spec {ops : List Oper} : ∀ {k : Nat} {l : List Oper}, (∀ j, l[j]? = ops[k + j]?) → ∀ io ∈ lexOps ops k l, ops[io.1]? = some io.2
  | _, [], _, _, h => by cases h
  | k, o :: l, hl, io, h => by
    rcases List.mem_cons.1 h with rfl | h
    · simpa using (hl 0).symm
    · exact lexOps_spec (k := k + 1) (l := l) (fun j => by have := hl (j + 1); simpa [Nat.add_assoc, Nat.add_comm 1 j] using this) io h
theorem T_any_q {st : St} {Q : Exit → St → Prop} {id : Nat} (hm : x.P.follows .mixedOrders = true) (hok : (takesOk ops x.N (lexOps ops 0 ops) ops.length (Array.replicate ops.length false) [] && readyOk ops) = true)
    (h : vops x.P ops ops st fun st' => Q .normal st') : T x st (.region id ops.toArray true) Q := by
  simp only [Bool.and_eq_true] at hok
  have hr : Region.ready .any ops.toArray (listedAfter (lexOps ops 0 ops) (Array.replicate ops.length false)) = [] := by simpa [readyOk] using hok.2
  exact T_any hm (V_takes_aux (lexOps_spec (by simp)) hok.1 (by rw [lexOps_snd.1]; exact h) fun st' hk => V_done hr hk)
end
@[congr] theorem V_congr {x : Cx} {ops tk : List Oper} {fuel : Nat} {listed : Array Bool} {st st' : St} {K : St → Prop} (h : st = st') : V x ops tk fuel listed st K = V x ops tk fuel listed st' K := by rw [h]
theorem T_seq_any_q {x : Cx} {ops : List Oper} {st : St} {Q : Exit → St → Prop} {id : Nat} {d : Code} (hm : x.P.follows .mixedOrders = true) (hok : (takesOk ops x.N (lexOps ops 0 ops) ops.length (Array.replicate ops.length false) [] && readyOk ops) = true)
    (h : vops x.P ops ops st fun st' => T x st' d Q) : T x st (.seq (.region id ops.toArray true) d) Q :=
  T_seq (T_any_q hm hok h)
section
variable {P : Program} {ops tk l : List Oper} {st : St} {o : Oper} {i : Nat} {x : Cx} {fuel : Nat} {listed : Array Bool} {K : St → Prop}
theorem ev_vre0 : vre P ops st [] = True := rfl
theorem ev_vreS : vre P ops st (o :: l) = (isQ o.op = true ∧ (vop P ops st o fun st' => dstE o st.e st'.e) ∧ vre P ops st l) := rfl
theorem ev_tk0 : tkAfter [] tk = tk := rfl
theorem ev_tkS {i : Nat} {o : Oper} {l : List (Nat × Oper)} {tk : List Oper} : tkAfter ((i, o) :: l) tk = tkAfter l (tkPut o tk) := rfl
section
variable {d : Option Nat} {t : TypeId} {p : String} {af : Array Edge} {gd : Option (Nat × Bool)} {tk : List Oper} {x y z : Operand} {t1 t2 : TypeId} {b : BinOp} {u : UnOp} {n : Nat} {c : Call}
@[go_sem] theorem ev_tk1 : tkPut ⟨d, .move x, t, p, af, gd⟩ tk = tk := rfl
@[go_sem] theorem ev_tk2 : tkPut ⟨d, .assign x, t, p, af, gd⟩ tk = tk := rfl
@[go_sem] theorem ev_tk3 : tkPut ⟨d, .pick x y z, t, p, af, gd⟩ tk = ⟨d, .pick x y z, t, p, af, gd⟩ :: tk := rfl
@[go_sem] theorem ev_tk4 : tkPut ⟨d, .load t1 x, t, p, af, gd⟩ tk = ⟨d, .load t1 x, t, p, af, gd⟩ :: tk := rfl
@[go_sem] theorem ev_tk5 : tkPut ⟨d, .nilCheck x, t, p, af, gd⟩ tk = ⟨d, .nilCheck x, t, p, af, gd⟩ :: tk := rfl
@[go_sem] theorem ev_tk6 : tkPut ⟨d, .binOp b t1 x y t2, t, p, af, gd⟩ tk = ⟨d, .binOp b t1 x y t2, t, p, af, gd⟩ :: tk := rfl
@[go_sem] theorem ev_tk7 : tkPut ⟨d, .unOp u t1 x, t, p, af, gd⟩ tk = ⟨d, .unOp u t1 x, t, p, af, gd⟩ :: tk := rfl
@[go_sem] theorem ev_tk8 : tkPut ⟨d, .convert t1 t2 x, t, p, af, gd⟩ tk = ⟨d, .convert t1 t2 x, t, p, af, gd⟩ :: tk := rfl
@[go_sem] theorem ev_tk9 : tkPut ⟨d, .fieldAddr t1 x n, t, p, af, gd⟩ tk = ⟨d, .fieldAddr t1 x n, t, p, af, gd⟩ :: tk := rfl
@[go_sem] theorem ev_tk10 : tkPut ⟨d, .field t1 x n, t, p, af, gd⟩ tk = ⟨d, .field t1 x n, t, p, af, gd⟩ :: tk := rfl
@[go_sem] theorem ev_tk11 : tkPut ⟨d, .indexAddr t1 x y, t, p, af, gd⟩ tk = ⟨d, .indexAddr t1 x y, t, p, af, gd⟩ :: tk := rfl
@[go_sem] theorem ev_tk12 : tkPut ⟨d, .index t1 x y, t, p, af, gd⟩ tk = ⟨d, .index t1 x y, t, p, af, gd⟩ :: tk := rfl
@[go_sem] theorem ev_tk13 : tkPut ⟨d, .extract x n, t, p, af, gd⟩ tk = ⟨d, .extract x n, t, p, af, gd⟩ :: tk := rfl
@[go_sem] theorem ev_tk14 : tkPut ⟨d, .call c, t, p, af, gd⟩ tk = ⟨d, .call c, t, p, af, gd⟩ :: tk := rfl
end
theorem ev_vbr0 : vbr x ops tk fuel listed st K [] = True := rfl
theorem ev_vbrS {rs : List Nat} : vbr x ops tk fuel listed st K (i :: rs) = ((onO ops[i]? fun o => vop x.P ops st o fun st' => vre x.P ops st' tk ∧ V x ops tk fuel (listed.setIfInBounds i true) st' K) ∧ vbr x ops tk fuel listed st K rs) := rfl
theorem ev_onO {K : Oper → Prop} : onO (some o) K = K o := rfl
theorem ev_nth0 : (o :: l)[0]? = some o := rfl
theorem ev_nthS : (o :: l)[i + 1]? = l[i]? := rfl
theorem ev_dstE {d : Tmp} {op : Op} {ty : TypeId} {pos : String} {af : Array Edge} {gd : Option (Nat × Bool)} {e e' : Env} : dstE ⟨some d, op, ty, pos, af, gd⟩ e e' = (look d e' = look d e) := rfl
attribute [go_sem] ev_vre0 ev_vreS ev_tk0 ev_tkS ev_vbr0 ev_vbrS ev_onO ev_dstE
attribute [go_sem] List.getElem?_cons_zero List.getElem?_cons_succ Int.ofNat_lt Int.ofNat_le Int.natCast_nonneg
@[congr] theorem vre_congr {st st' : St} {l l' : List Oper} (h : st = st') (h' : l = l') : vre P ops st l = vre P ops st' l' := by rw [h, h']
@[congr] theorem vbr_congr {st st' : St} {rs : List Nat} (h : st = st') : vbr x ops tk fuel listed st K rs = vbr x ops tk fuel listed st' K rs := by rw [h]
@[congr] theorem onO_congr {x x' : Option Oper} {K : Oper → Prop} (h : x = x') : onO x K = onO x' K := by rw [h]
end
end Go.SL
