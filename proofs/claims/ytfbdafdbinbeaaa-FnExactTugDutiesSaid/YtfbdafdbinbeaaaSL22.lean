/- Plain theorems about the model: a symbolic state, its evaluation and its soundness. No condition; nothing of the program is named. -/
import Derived.Test.YtfbdafdbinbeaaaSL21
set_option linter.unusedVariables false
set_option linter.unusedSimpArgs false
namespace Go.SL
open Go Go.RowKit

/-! ### regions whose order is open: what an operation waits for need not be kept in mind behind it -/
def waitsOn (ops : Array Oper) : Nat → Nat → Nat → Bool
  | 0, _, _ => false
  | f + 1, k, i => match ops[k]? with
    | some o => o.after.toList.any fun e => Region.binds .any e && (e.on == i || waitsOn ops f e.on i)
    | none => false
def Closed (ops : Array Oper) (l : Array Bool) : Prop := ∀ k o, ops[k]? = some o → l.getD k false = true → ∀ e ∈ o.after, Region.binds .any e = true → l.getD e.on false = true
theorem waits_closed {ops : Array Oper} {l : Array Bool} (hc : Closed ops l) {i : Nat} (hi : l.getD i false = false) : ∀ {f k : Nat}, l.getD k false = true → waitsOn ops f k i = false
  | 0, _, _ => rfl
  | f + 1, k, hk => by
    unfold waitsOn
    split
    · rename_i o ho
      rw [List.any_eq_false]
      intro e he hb
      simp only [Bool.and_eq_true, Bool.or_eq_true, beq_iff_eq] at hb
      have h1 := hc k o ho hk e (by simpa using he) hb.1
      rcases hb.2 with h2 | h2
      · rw [h2, hi] at h1; cases h1
      · rw [waits_closed hc hi h1] at h2; cases h2
    · rfl
theorem getD_tf {l : Array Bool} {i : Nat} (h : l.getD i true = false) : l.getD i false = false := by
  rcases Nat.lt_or_ge i l.size with h' | h'
  · simpa [Array.getD, h'] using h
  · simp [Array.getD, Nat.not_lt.2 h'] at h
theorem getD_setT {l : Array Bool} {i k : Nat} (h : l.getD k false = true) : (l.setIfInBounds i true).getD k false = true := by
  simp only [Array.getD_eq_getD_getElem?] at h ⊢
  by_cases e : i = k
  · subst e
    rcases Nat.lt_or_ge i l.size with h' | h'
    · simp [h']
    · simp [Array.getElem?_eq_none h'] at h
  · rw [Array.getElem?_setIfInBounds_ne e]; exact h
theorem getD_setF {l : Array Bool} {i k : Nat} (e : i ≠ k) : (l.setIfInBounds i true).getD k false = l.getD k false := by
  simp only [Array.getD_eq_getD_getElem?]
  rw [Array.getElem?_setIfInBounds_ne e]
theorem ready_waits {ops : Array Oper} {l : Array Bool} (hc : Closed ops l) {i j : Nat} (hi : l.getD i false = false) (hj : j ∈ Region.ready .any ops l) : ∀ {f : Nat}, waitsOn ops f j i = false
  | 0 => rfl
  | f + 1 => by
    obtain ⟨_, o, ho, hall⟩ := mem_ready.1 hj
    unfold waitsOn
    rw [ho]
    rw [List.any_eq_false]
    intro e he hb
    simp only [Bool.and_eq_true, Bool.or_eq_true, beq_iff_eq] at hb
    have h1 := hall e (by simpa using he) hb.1
    rcases hb.2 with h2 | h2
    · rw [h2, hi] at h1; cases h1
    · rw [waits_closed hc hi h1] at h2; cases h2
theorem Closed.set {ops : Array Oper} {l : Array Bool} (hc : Closed ops l) {j : Nat} (hj : j ∈ Region.ready .any ops l) : Closed ops (l.setIfInBounds j true) := by
  intro k o ho hk e he hb
  by_cases ej : j = k
  · subst ej
    obtain ⟨_, o', ho', hall⟩ := mem_ready.1 hj
    rw [ho] at ho'; cases ho'
    exact getD_setT (hall e he hb)
  · rw [getD_setF ej] at hk
    exact getD_setT (hc k o ho hk e he hb)

def wpAnyS (P : Program) (ops : Array Oper) (Q : Exit → Act → World → Prop) (S : Array Bool → World → Prop) : Nat → Array Bool → Act → World → Prop
  | 0, listed, a, w => Region.ready .any ops listed = [] ∧ Q .normal a w
  | fuel + 1, listed, a, w =>
    (Region.ready .any ops listed = [] → Q .normal a w) ∧
    ∀ i ∈ Region.ready .any ops listed, wpOp P ops Q i (fun a' w' => S (listed.setIfInBounds i true) w' ∧ wpAnyS P ops Q S fuel (listed.setIfInBounds i true) a' w') a w
section
variable {P : Program} {ops : Array Oper} {Q : Exit → Act → World → Prop} {S S' : Array Bool → World → Prop}
theorem wpAny_of_S : ∀ (fuel : Nat) (listed : Array Bool) (a : Act) (w : World), wpAnyS P ops Q S fuel listed a w → wpAny P .any ops Q fuel listed a w
  | 0, _, _, _, h => h
  | fuel + 1, _, _, _, h => ⟨h.1, fun i hi => wpOp_mono (fun a' w' h' => wpAny_of_S fuel _ a' w' h'.2) (h.2 i hi)⟩
theorem wpAnyS_first {i : Nat} {oi : Oper} {v : Value} {G : World → Prop} (hi : ops[i]? = some oi) (hsel : ∀ (j : Nat) (o : Oper) cs b, ops[j]? = some o → o.op ≠ .select cs b)
    (hQ : ∀ c a w, Q (.panic c) (a.put oi.dst v) w → Q (.panic c) a w)
    (hG : ∀ (l : Array Bool) (j : Nat) (w : World), Closed ops l → l.getD i false = false → j ∈ Region.ready .any ops l → j ≠ i → S' ((l.setIfInBounds i true).setIfInBounds j true) w → G w)
    (hS : ∀ (l : Array Bool) (j : Nat) (w : World), S' ((l.setIfInBounds i true).setIfInBounds j true) w → S (l.setIfInBounds j true) w)
    (hA : ∀ (l : Array Bool) (w : World), S l w → S (l.setIfInBounds i true) w)
    (hE : ∀ (fuel : Nat) (l : Array Bool) (a : Act) (w : World), wpAnyS P ops Q S' fuel (l.setIfInBounds i true) a w → wpAnyS P ops Q S fuel (l.setIfInBounds i true) a w) :
    ∀ (fuel : Nat) (listed : Array Bool) (a : Act) (w : World),
      (∀ j oj, ops[j]? = some oj → j ≠ i → listed.getD j true = false → (∀ e ∈ oj.after, Region.binds .any e = true → e.on ≠ i) → oi.apart ops oj = true) →
      Closed ops listed → i ∈ Region.ready .any ops listed → YieldsIf P ops G oi v a → G w → S (listed.setIfInBounds i true) w →
      wpAnyS P ops Q S' fuel (listed.setIfInBounds i true) (a.put oi.dst v) w → wpAnyS P ops Q S (fuel + 1) listed a w := by
  intro fuel
  induction fuel with
  | zero =>
    intro listed a w _ hc hr hy hGw hSw H
    refine ⟨fun h => (by rw [h] at hr; cases hr), fun j hj => ?_⟩
    by_cases hji : j = i
    · subst hji; exact hy.wpOp hi hGw ⟨hSw, hE _ _ _ _ H⟩
    · have := ready_mono hj hji
      rw [H.1] at this
      cases this
  | succ fuel ih =>
    intro listed a w hfree hc hr hy hGw hSw H
    have hiun : listed.getD i false = false := getD_tf (mem_ready.1 hr).1
    refine ⟨fun h => (by rw [h] at hr; cases hr), fun j hj => ?_⟩
    by_cases hji : j = i
    · subst hji; exact hy.wpOp hi hGw ⟨hSw, hE _ _ _ _ H⟩
    · have h1 := H.2 j (ready_mono hj hji)
      obtain ⟨hjun, oj, hoj, hall⟩ := mem_ready.1 hj
      have hnot : ∀ e ∈ oj.after, Region.binds .any e = true → e.on ≠ i := fun e he hb heq => by
        have h1 := hall e he hb
        rw [heq, hiun] at h1
        cases h1
      have h2 := wpOp_putIf hoj (hfree j oj hoj hji hjun hnot) (fun cs b => hsel i oi cs b hi) (fun cs b => hsel j oj cs b hoj) hQ hy h1
      have hfree' : ∀ k ok, ops[k]? = some ok → k ≠ i → (listed.setIfInBounds j true).getD k true = false →
          (∀ e ∈ ok.after, Region.binds .any e = true → e.on ≠ i) → oi.apart ops ok = true := fun k ok hk hki hun hno => by
        refine hfree k ok hk hki ?_ hno
        by_cases hjk : j = k
        · subst hjk; exact hjun
        · rw [getD_set_ne true hjk] at hun; exact hun
      refine wpOp_mono (fun a' w' h3 => ?_) h2
      have s1 := hS listed j w' h3.2.1
      refine ⟨s1, ih (listed.setIfInBounds j true) a' w' hfree' (hc.set hj) (ready_mono hr (Ne.symm hji)) h3.1 (hG listed j w' hc hiun hj hji h3.2.1) (hA _ _ s1) ?_⟩
      rw [Array.setIfInBounds_comm _ _ hji]
      exact h3.2.2
end

abbrev TkI := Nat × Tk
def settled (ops : Array Oper) (tk : List Nat) (l : Array Bool) (i : Nat) : Bool := (List.range ops.size).any fun k => l.getD k false && !tk.contains k && waitsOn ops ops.size k i
def SS (P : Program) (ops : Array Oper) (tk : List Nat) (D : List TkI) (l : Array Bool) (W : World) : Prop :=
  ∀ t ∈ D, settled ops tk l t.1 = false → Region.wanted t.2.1 (yielded ops t.2.2.2.tmps) = true → (execOp t.2.2.2.eval t.2.1).run P W = .ok (.value t.2.2.1) W
theorem settled_false {ops : Array Oper} {tk : List Nat} {l : Array Bool} {i : Nat} : settled ops tk l i = false ↔ ∀ k, k < ops.size → l.getD k false = true → k ∉ tk → waitsOn ops ops.size k i = false := by
  unfold settled
  rw [List.any_eq_false]
  constructor
  · intro h k hk h1 h2
    have := h k (List.mem_range.2 hk)
    simp only [h1, Bool.true_and, Bool.and_eq_true, Bool.not_eq_true', List.contains_eq_mem, decide_eq_false_iff_not, not_and, Bool.not_eq_true] at this
    exact this h2
  · intro h k hk
    have hk := List.mem_range.1 hk
    intro hb
    simp only [Bool.and_eq_true, Bool.not_eq_true', List.contains_eq_mem, decide_eq_false_iff_not] at hb
    rw [h k hk hb.1.1 hb.1.2] at hb
    cases hb.2
theorem wpAnyS_mono {P : Program} {ops : Array Oper} {Q : Exit → Act → World → Prop} {S S' : Array Bool → World → Prop} (h : ∀ l w, S' l w → S l w) : ∀ (fuel : Nat) (listed : Array Bool) (a : Act) (w : World), wpAnyS P ops Q S' fuel listed a w → wpAnyS P ops Q S fuel listed a w
  | 0, _, _, _, H => H
  | fuel + 1, _, _, _, H => ⟨H.1, fun i hi => wpOp_mono (fun a' w' h' => ⟨h _ _ h'.1, wpAnyS_mono h fuel _ a' w' h'.2⟩) (H.2 i hi)⟩

def nmv (ops : List Oper) (k : Nat) : Bool := match ops[k]? with | some o => !isMv o.op | none => false
@[irreducible] def U (x : Cx) (ops : List Oper) (tk : List Nat) (fuel : Nat) (listed : Array Bool) (st : St) (K : St → Prop) : Prop :=
  ∀ (D : List TkI), D.map (·.1) = tk.filter (nmv ops) → (∀ t ∈ D, ops[t.1]? = some t.2.1) → Closed ops.toArray listed → (∀ k ∈ tk, listed.getD k false = true) →
    ∀ a W, Conc x.W0 x.h0 x.N st a W → FrD ops.toArray (D.map (·.2)) a → SS x.P ops.toArray tk D listed W →
    wpAnyS x.P ops.toArray (QN x K) (SS x.P ops.toArray tk D) fuel listed a W

def tkOkI (ops : List Oper) (tk : List Nat) (o : Oper) : Bool := tk.all fun k => !nmv ops k || match ops[k]? with | some t => noSel t && later ops.toArray t o | none => false
theorem tkOkI_spec {ops : List Oper} {tk : List Nat} {o : Oper} {D : List TkI} (h : tkOkI ops tk o = true) (hD : D.map (·.1) = tk.filter (nmv ops)) (hop : ∀ t ∈ D, ops[t.1]? = some t.2.1) : ∀ t ∈ D.map (·.2), noSel t.1 = true ∧ later ops.toArray t.1 o = true := by
  intro t ht
  obtain ⟨t', ht', rfl⟩ := List.mem_map.1 ht
  have h1 : t'.1 ∈ tk.filter (nmv ops) := by rw [← hD]; exact List.mem_map_of_mem ht'
  obtain ⟨h1, h2⟩ := List.mem_filter.1 h1
  have := List.all_eq_true.1 h _ h1
  rw [h2, hop t' ht'] at this
  simpa using this
def takeOkI (ops : List Oper) (listed : Array Bool) (tk : List Nat) (i : Nat) (o : Oper) (N : Nat) : Bool :=
  Region.noSelect ops.toArray && Region.free .any ops.toArray listed i && (Region.ready .any ops.toArray listed).contains i && isQ o.op && noSel o && ownOk ops o N && tkOkI ops tk o && !tk.contains i

section
variable {x : Cx} {ops : List Oper} {tk : List Nat} {fuel : Nat} {listed : Array Bool} {st : St} {K : St → Prop}
theorem U_take' (i : Nat) {o : Oper} (hi : ops[i]? = some o) (hok : takeOkI ops listed tk i o x.N = true)
    (h : isQ o.op = true → st.wf = true → ∃ g sv, U x ops (i :: tk) fuel (listed.setIfInBounds i true) (st.put o.dst g sv) K ∧ sv.lt st.nx = true ∧ (g = true → Yv x.P x.W0 x.h0 x.N st o sv) ∧ ∀ ρ a, FOk x.N ρ st.e a → Region.wanted o (yielded ops.toArray a.tmps) = g) : U x ops tk (fuel + 1) listed st K := by
  unfold U at *
  intro D hD hop hcl htk a W hC hF hS
  simp only [takeOkI, Bool.and_eq_true] at hok
  obtain ⟨⟨⟨⟨⟨⟨⟨c1, c2⟩, c3⟩, c4⟩, c5⟩, c6⟩, c7⟩, c8⟩ := hok
  have c8 : i ∉ tk := by simpa using c8
  obtain ⟨ρ, hf, hW, hwf⟩ := hC
  obtain ⟨g, sv, k1, k2, k3, hg⟩ := h c4 hwf
  replace hg := hg ρ a hf
  unfold ownOk at c6
  split at c6
  case h_2 => cases c6
  rename_i d hd
  simp only [Bool.and_eq_true, decide_eq_true_eq, Bool.not_eq_true', List.contains_eq_mem, decide_eq_false_iff_not] at c6
  have hi' : ops.toArray[i]? = some o := by simpa using hi
  have hr : i ∈ Region.ready .any ops.toArray listed := by simpa using c3
  have hiun : listed.getD i false = false := getD_tf (mem_ready.1 hr).1
  have hisz : i < listed.size := by
    have := (mem_ready.1 hr).1
    rcases Nat.lt_or_ge i listed.size with h' | h'
    · exact h'
    · simp [Array.getD, Nat.not_lt.2 h'] at this
  let v : Value := if g = true then sv.conc ρ else undef
  have hC' : Conc x.W0 x.h0 x.N (st.put o.dst g sv) (a.put o.dst v) W := Conc.put_q hwf (fun d' e => by rw [hd] at e; cases e; exact c6.1) hf hW k2 rfl
  have hown : ∀ d', o.dst = some d' → d' ∉ o.looksAt ops.toArray := fun d' e => by rw [hd] at e; cases e; exact c6.2
  let D' : List TkI := if nmv ops i = true then (i, o, v, a) :: D else D
  have memD' : ∀ t, t ∈ D' → t = (i, o, v, a) ∧ nmv ops i = true ∨ t ∈ D := by
    intro t ht
    simp only [D'] at ht
    split at ht
    · rename_i hn
      rcases List.mem_cons.1 ht with rfl | ht
      · exact .inl ⟨rfl, hn⟩
      · exact .inr ht
    · exact .inr ht
  have memD : ∀ t, t ∈ D → t ∈ D' := by
    intro t ht
    simp only [D']
    split
    · exact List.mem_cons_of_mem _ ht
    · exact ht
  have hFput : FrD ops.toArray (D.map (·.2)) (a.put o.dst v) := hF.put (tkOkI_spec c7 hD hop)
  have hF' : FrD ops.toArray (D'.map (·.2)) (a.put o.dst v) := by
    intro t ht
    obtain ⟨t', ht', rfl⟩ := List.mem_map.1 ht
    rcases memD' t' ht' with ⟨rfl, _⟩ | ht'
    · refine ⟨execOp_put o (noSel_spec c5) a o.dst v hown, wanted_put o a o.dst v hown, fun d' e => ?_⟩
      simp only at e
      rw [hd] at e; cases e
      have hsz : d < a.tmps.size := by rw [hf.2.1]; exact c6.1
      simp [Act.put, hd, hsz]
    · exact hFput _ (List.mem_map_of_mem ht')
  have hD' : D'.map (·.1) = (i :: tk).filter (nmv ops) := by
    simp only [D', List.filter_cons]
    split
    · rw [List.map_cons, hD]
    · exact hD
  have hop' : ∀ t ∈ D', ops[t.1]? = some t.2.1 := by
    intro t ht
    rcases memD' t ht with ⟨rfl, _⟩ | ht
    · exact hi
    · exact hop t ht
  have htk' : ∀ k ∈ i :: tk, (listed.setIfInBounds i true).getD k false = true := by
    intro k hk
    rcases List.mem_cons.1 hk with rfl | hk
    · simp [Array.getD, hisz]
    · exact getD_setT (htk k hk)
  have hrun : g = true → (execOp a.eval o).run x.P W = .ok (.value v) W := fun hg1 => by
    have := k3 hg1 ρ a W hf hW
    simp only [v, hg1, if_true]
    exact this
  have anti : ∀ (l : Array Bool) (w : World), SS x.P ops.toArray tk D l w → SS x.P ops.toArray tk D (l.setIfInBounds i true) w := by
    intro l w h t ht hs
    refine h t ht (settled_false.2 fun k hk h1 h2 => settled_false.1 hs k hk (getD_setT h1) h2)
  have mono' : ∀ (l : Array Bool) (w : World), SS x.P ops.toArray (i :: tk) D' l w → SS x.P ops.toArray tk D l w := by
    intro l w h t ht hs
    exact h t (memD t ht) (settled_false.2 fun k hk h1 h2 => settled_false.1 hs k hk h1 (fun e => h2 (List.mem_cons_of_mem _ e)))
  have hS' : SS x.P ops.toArray (i :: tk) D' (listed.setIfInBounds i true) W := by
    intro t ht hs hw
    rcases memD' t ht with ⟨rfl, _⟩ | ht
    · exact hrun (by rw [← hg]; exact hw)
    · refine hS t ht (settled_false.2 fun k hk h1 h2 => settled_false.1 hs k hk (getD_setT h1) (fun e => ?_)) hw
      rcases List.mem_cons.1 e with rfl | e
      · rw [hiun] at h1; cases h1
      · exact h2 e
  let G : World → Prop := fun w => g = true → (execOp a.eval o).run x.P w = .ok (.value v) w
  have hy : YieldsIf x.P ops.toArray G o v a := by
    cases hgg : g with
    | true => exact .inl ⟨by rw [hg, hgg], fun w hw => hw hgg⟩
    | false => exact .inr ⟨by rw [hg, hgg], by simp [v, hgg]⟩
  have hGmv : nmv ops i = false → ∀ w, G w := fun hn w hg1 => by
    have hm : isMv o.op = true := by simpa [nmv, hi] using hn
    exact mv_run hm (hrun hg1) w
  have H := k1 D' hD' hop' (hcl.set hr) htk' _ W hC' hF' hS'
  refine wpAnyS_first (G := G) hi' (Region.noSelect_spec c1) ?_ (fun l j w hcl' hl hj hji hs => ?_) (fun l j w hs => ?_) anti (fun fuel l a w h => wpAnyS_mono mono' fuel _ a w h) fuel listed a W (Region.free_spec hi' c2) hcl hr hy hrun (anti _ _ hS) H
  · rintro c a' w ⟨e, _⟩
    cases e
  · cases hn : nmv ops i with
    | false => exact hGmv hn w
    | true =>
      intro hg1
      have hm : (i, o, v, a) ∈ D' := by simp [D', hn]
      refine hs _ hm (settled_false.2 fun k hk h1 h2 => ?_) (by rw [← hg1]; exact hg)
      have hki : i ≠ k := fun e => h2 (by rw [e]; exact List.mem_cons_self ..)
      by_cases hkj : j = k
      · subst hkj; exact ready_waits hcl' hl hj
      · rw [getD_setF hkj, getD_setF hki] at h1
        exact waits_closed hcl' hl h1
  · intro t ht hs2
    refine hs t (memD t ht) (settled_false.2 fun k hk h1 h2 => settled_false.1 hs2 k hk ?_ (fun e => h2 (List.mem_cons_of_mem _ e)))
    have hki : i ≠ k := fun e => h2 (by rw [e]; exact List.mem_cons_self ..)
    by_cases hkj : j = k
    · subst hkj
      rw [Array.setIfInBounds_comm _ _ hki, getD_setF hki] at h1
      exact h1
    · rw [getD_setF hkj, getD_setF hki] at h1
      exact getD_setT h1

def takesOkI (ops : List Oper) (N : Nat) : List (Nat × Oper) → Nat → Array Bool → List Nat → Bool
  | [], _, _, _ => true
  | _ :: _, 0, _, _ => false
  | (i, o) :: l, fuel + 1, listed, tk => takeOkI ops listed tk i o N && takesOkI ops N l fuel (listed.setIfInBounds i true) (i :: tk)
def tkA : List Nat → List Nat → List Nat
  | [], tk => tk
  | i :: l, tk => tkA l (i :: tk)
theorem U_takes_aux {K' : St → Prop} : ∀ {l : List (Nat × Oper)} {fuel : Nat} {listed : Array Bool} {tk : List Nat} {st : St}, (∀ io ∈ l, ops[io.1]? = some io.2) → takesOkI ops x.N l fuel listed tk = true →
    vops x.P ops (l.map (·.2)) st K' → (∀ st', K' st' → U x ops (tkA (l.map (·.1)) tk) (fuel - l.length) (listedAfter l listed) st' K) → U x ops tk fuel listed st K
  | [], fuel, listed, tk, st, _, _, h, hk => hk _ h
  | _ :: _, 0, _, _, _, _, hok, _, _ => by simp [takesOkI] at hok
  | (i, o) :: l, fuel + 1, listed, tk, st, hp, hok, h, hk => by
    simp only [takesOkI, Bool.and_eq_true] at hok
    refine U_take' i (hp _ (List.mem_cons_self ..)) hok.1 fun hq hwf => ?_
    obtain ⟨g, sv, k1, k2⟩ := q_yield (W0 := x.W0) (h0 := x.h0) (N := x.N) hq hwf h
    exact ⟨g, sv, U_takes_aux (fun io hi => hp io (List.mem_cons_of_mem _ hi)) hok.2 k1 (fun st' h' => by simpa [tkA, listedAfter] using hk st' h'), k2⟩
theorem U_takes (is : List Nat) {l : List (Nat × Oper)} (hp : pickO ops is = some l) (hok : takesOkI ops x.N l fuel listed tk = true)
    (h : vops x.P ops (l.map (·.2)) st fun st' => U x ops (tkA (l.map (·.1)) tk) (fuel - l.length) (listedAfter l listed) st' K) : U x ops tk fuel listed st K :=
  U_takes_aux (pickO_spec hp) hok h fun _ h => h

/-- What must be read anew behind operation i. -/
def liveI (ops : List Oper) (tk : List Nat) (l : Array Bool) : List Nat := (tk.filter (nmv ops)).filter fun k => !settled ops.toArray tk l k
def vread (x : Cx) (ops : List Oper) (tk : List Nat) (l : Array Bool) (st : St) : Prop := ∃ ls, pickO ops (liveI ops tk l) = some ls ∧ vre x.P ops st (ls.map (·.2))
theorem vread_sound {D : List TkI} {a : Act} {W : World} (hD : D.map (·.1) = tk.filter (nmv ops)) (hop : ∀ t ∈ D, ops[t.1]? = some t.2.1) (hC : Conc x.W0 x.h0 x.N st a W) (hF : FrD ops.toArray (D.map (·.2)) a) (h : vread x ops tk listed st) : SS x.P ops.toArray tk D listed W := by
  obtain ⟨ls, hp, h⟩ := h
  intro t ht hs
  have hm : t.1 ∈ liveI ops tk listed := by
    refine List.mem_filter.2 ⟨?_, by rw [hs]; rfl⟩
    rw [← hD]; exact List.mem_map_of_mem ht
  have hm2 : t.2.1 ∈ ls.map (·.2) := by
    have aux : ∀ {is : List Nat} {l : List (Nat × Oper)}, pickO ops is = some l → ∀ i ∈ is, ∀ o, ops[i]? = some o → o ∈ l.map (·.2) := by
      intro is
      induction is with
      | nil => intro l _ i hi; cases hi
      | cons j is ih =>
        intro l hl i hi o ho
        simp only [pickO] at hl
        split at hl
        · rename_i o' l' ho' hl'
          simp only [Option.some.injEq] at hl
          subst hl
          rcases List.mem_cons.1 hi with rfl | hi
          · rw [ho'] at ho; cases ho; exact List.mem_cons_self ..
          · exact List.mem_cons_of_mem _ (ih hl' i hi o ho)
        · cases hl
    exact aux hp _ hm _ (hop t ht)
  have one : ∀ {l : List Oper}, vre x.P ops st l → ∀ o ∈ l, isQ o.op = true ∧ (vop x.P ops st o fun st' => dstE o st.e st'.e) := by
    intro l
    induction l with
    | nil => intro _ o ho; cases ho
    | cons o' l ih =>
      intro hv o ho
      rcases List.mem_cons.1 ho with rfl | ho
      · exact ⟨hv.1, hv.2.1⟩
      · exact ih hv.2.2 o ho
  obtain ⟨hq, hv⟩ := one h _ hm2
  have hS := vre_sound (D := [t.2]) hC (fun t' ht' => hF t' (by rw [List.mem_singleton.1 ht']; exact List.mem_map_of_mem ht)) ⟨hq, hv, trivial⟩
  exact hS t.2 (List.mem_singleton.2 rfl)

/-- The next operation, with its mark, if no other may come up. -/
theorem U_one (i m : Nat) {o : Oper} (hi : ops[i]? = some o) (hr : Region.ready .any ops.toArray listed = [i]) (hok : (tkOkI ops tk o && (match o.dst with | some d => decide (d < x.N) | none => true)) = true)
    (h : vopM x ops st o (fun st' => vread x ops tk (listed.setIfInBounds i true) st' ∧ U x ops tk fuel (listed.setIfInBounds i true) st' K) m) : U x ops tk (fuel + 1) listed st K := by
  simp only [Bool.and_eq_true] at hok
  unfold U at *
  intro D hD hop hcl htk a W hC hF hS
  refine ⟨fun h0 => (by rw [hr] at h0; cases h0), fun j hj => ?_⟩
  have hj' := hj
  rw [hr] at hj
  obtain rfl := List.mem_singleton.1 hj
  have hi' : ops.toArray[j]? = some o := by simpa using hi
  have hd : ∀ d', o.dst = some d' → d' < x.N := by
    intro d' e
    have := hok.2
    rw [e] at this
    simpa using this
  have htk' : ∀ k ∈ tk, (listed.setIfInBounds j true).getD k false = true := fun k hk => getD_setT (htk k hk)
  unfold wpOp
  simp only [hi']
  rcases vopM_sound (QQ := QN x K) hd h hC with ⟨hw, hwp⟩ | ⟨hw, st', ⟨k1, k2⟩, hC'⟩
  · rw [if_pos hw]
    left
    refine Oper.wp_mono ?_ (wp_put hwp)
    rintro a' W' ⟨⟨u, ds, rfl⟩, st', ⟨k1, k2⟩, hC'⟩
    have hF' : FrD ops.toArray (D.map (·.2)) (Act.put { a with defers := ds } o.dst u) := FrD.put (FrD.defers hF) (tkOkI_spec hok.1 hD hop)
    have hS' := vread_sound hD hop hC' hF' k1
    exact ⟨hS', k2 D hD hop (hcl.set hj') htk' _ W' hC' hF' hS'⟩
  · rw [if_neg (by simp [hw])]
    have hF' : FrD ops.toArray (D.map (·.2)) (a.put o.dst undef) := hF.put (tkOkI_spec hok.1 hD hop)
    have hS' := vread_sound hD hop hC' hF' k1
    exact ⟨hS', k2 D hD hop (hcl.set hj') htk' _ W hC' hF' hS'⟩
theorem U_one' (i m : Nat) (ls : List Nat) {o : Oper} {l : List (Nat × Oper)} (hi : ops[i]? = some o) (hr : Region.ready .any ops.toArray listed = [i]) (hok : (tkOkI ops tk o && (match o.dst with | some d => decide (d < x.N) | none => true)) = true)
    (hls : liveI ops tk (listed.setIfInBounds i true) = ls) (hp : pickO ops ls = some l)
    (h : vopM x ops st o (fun st' => vre x.P ops st' (l.map (·.2)) ∧ U x ops tk fuel (listed.setIfInBounds i true) st' K) m) : U x ops tk (fuel + 1) listed st K := by
  refine U_one i m hi hr hok ?_
  subst hls
  have e : (fun st' => vre x.P ops st' (l.map (·.2)) ∧ U x ops tk fuel (listed.setIfInBounds i true) st' K) = (fun st' => vread x ops tk (listed.setIfInBounds i true) st' ∧ U x ops tk fuel (listed.setIfInBounds i true) st' K) := by
    funext st'
    apply propext
    constructor
    · rintro ⟨h1, h2⟩; exact ⟨⟨l, hp, h1⟩, h2⟩
    · rintro ⟨⟨l', hp', h1⟩, h2⟩; rw [hp] at hp'; cases hp'; exact ⟨h1, h2⟩
  rw [← e]; exact h
theorem U_done (hr : Region.ready .any ops.toArray listed = []) (h : K st) : U x ops tk fuel listed st K := by
  unfold U
  intro D hD hop hcl htk a W hC hF hS
  match fuel with
  | 0 => exact ⟨hr, rfl, st, h, hC⟩
  | _ + 1 => exact ⟨fun _ => ⟨rfl, st, h, hC⟩, by rw [hr]; simp⟩
theorem T_anyU {Q : Exit → St → Prop} {id : Nat} (hm : x.P.follows .mixedOrders = true) (h : U x ops [] ops.length (Array.replicate ops.length false) st fun st' => Q .normal st') : T x st (.region id ops.toArray true) Q := by
  unfold T
  unfold U at h
  intro a W hC
  have hcl : Closed ops.toArray (Array.replicate ops.length false) := by
    intro k o _ hk
    simp only [Array.getD_eq_getD_getElem?, Array.getElem?_replicate] at hk
    split at hk <;> cases hk
  have H := h [] rfl (fun t ht => by cases ht) hcl (fun k hk => by cases hk) a _ hC.drew (fun t ht => by cases ht) (fun t ht => by cases ht)
  refine Code.wp_mono ?_ (wp_region_any (id := id) (Q := QN x fun st' => Q .normal st') hm (wpAny_of_S _ _ _ _ H))
  rintro e a' W' ⟨rfl, st', hq, hC'⟩
  exact ⟨st', hq, hC'⟩
end
@[go_sem] theorem ev_tkA0 {tk : List Nat} : tkA [] tk = tk := rfl
@[go_sem] theorem ev_tkAS {i : Nat} {l tk : List Nat} : tkA (i :: l) tk = tkA l (i :: tk) := rfl
@[congr] theorem U_congr {x : Cx} {ops : List Oper} {tk : List Nat} {fuel : Nat} {listed : Array Bool} {st st' : St} {K : St → Prop} (h : st = st') : U x ops tk fuel listed st K = U x ops tk fuel listed st' K := by rw [h]
end Go.SL
