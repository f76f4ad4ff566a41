/- Plain theorems about the model: a symbolic state, its evaluation and its soundness. No condition; nothing of the program is named. -/
import Derived.Test.YtfbdafdbinbeaaaSL9
set_option linter.unusedVariables false
set_option linter.unusedSimpArgs false
namespace Go.SL
open Go Go.RowKit

section
variable {P : Program} {W0 : Base} {h0 : Hp} {N : Nat} {st : St} {g : Bool}

theorem partsS_spec {sz : Nat} : ∀ {i : Nat} {js : List Nat} {xs : List SV}, partsS sz i js xs →
    js = List.range' i xs.length ∧ js.length = xs.length ∧ (∀ x ∈ xs, x.cells.length = sz ∧ x.plain = true)
  | i, [], [], _ => by simp
  | i, [], _ :: _, h => by simp [partsS] at h
  | i, _ :: _, [], h => by simp [partsS] at h
  | i, j :: js, x :: xs, h => by
    obtain ⟨rfl, h1, h2, h3⟩ := h
    obtain ⟨k1, k2, k3⟩ := partsS_spec h3
    refine ⟨by simp [List.range'_succ, k1.symm], by simp [k2], fun y hy => ?_⟩
    rcases List.mem_cons.1 hy with rfl | hy
    · exact ⟨h1, h2⟩
    · exact k3 y hy

theorem pv_cells {x : SV} (h : x.plain = true) : x.pv.cells = (x.cells.map (·.val)).toArray := by
  cases x with
  | c x => cases x with
    | v x => cases x <;> simp [SV.pv, SC.val, Value.cells, SV.cells, List.map_map, Function.comp_def]
    | _ => cases h
  | g cs => simp [SV.pv, Value.cells, SV.cells]

theorem run_buildS {t e : TypeId} {n : Nat} {W : World} {js : List Nat} {vs : List SV} {z : List Value} (hu : P.underlying t = some (.slice e)) (hT : hasT P e = true) (hpos : 0 < szT P e) (hz : zeroT P e = some z) (_hzl : z.length = szT P e)
    (hsm : n * szT P e ≤ 16777216) (hn : vs.length = n) (hp : partsS (szT P e) 0 js vs) (ρ : Rho) :
    (Instr.buildSlice t n ((js.zip (vs.map (·.conc ρ))).toArray)).run P W = .ok (.slice (some ⟨W.heap.size, 0, none⟩) n n) (W.alloc (.cells (vs.flatMap fun x => x.cells.map (·.val)).toArray e)) := by
  obtain ⟨k1, k2, k3⟩ := partsS_spec hp
  obtain ⟨i, zv, hi, hiz, hzc, hsz, _⟩ := zeroT_info hz
  have hvs : vs.map (·.conc ρ) = vs.map (·.pv) := List.map_congr_left fun x hx => SV.pv_conc (k3 x hx).2 ρ
  have hcat : ((vs.map (·.pv)).flatMap fun v => v.cells.toList) = vs.flatMap fun x => x.cells.map (·.val) := by
    rw [List.flatMap_map]
    have : ∀ x ∈ vs, x.pv.cells.toList = x.cells.map (·.val) := fun x hx => by rw [pv_cells (k3 x hx).2]
    clear k1 k2 hn hp hvs k3 hsm
    induction vs with
    | nil => rfl
    | cons y ys ih => rw [List.flatMap_cons, List.flatMap_cons, this y List.mem_cons_self, ih fun x hx => this x (List.mem_cons_of_mem _ hx)]
  rw [hvs]
  rcases Nat.eq_zero_or_pos n with hn0 | hn0
  · subst hn0
    have : vs = [] := List.eq_nil_of_length_eq_zero hn
    subst this
    have hjs : js = [] := by simpa using k2
    subst hjs
    simp [Instr.buildSlice, run_underlying hu, Sem.run_bind, run_sizeOf (P := P) hT, Instr.fill, newRow]
    have : (Array.range 0) = #[] := by simp [Array.range]
    simp [this]
  · have hfill := Go.Great.fill_whole (s := szT P e) hpos (vs.map (·.pv)) ((Array.range (n * szT P e)).map (zv.cells[· % zv.cells.size]!)) (fun v hv => by
      obtain ⟨x, hx, rfl⟩ := List.mem_map.1 hv
      rw [pv_cells (k3 x hx).2]
      simpa using (k3 x hx).1) (by simp [hn])
    rw [hcat] at hfill
    have hz1 : (js.zip (vs.map (·.pv))) = ((vs.map (·.pv)).zipIdx 0).map fun x => (x.2, x.1) := by
      rw [k1]
      have : ∀ (l : List Value) (k : Nat), (List.range' k l.length).zip l = (l.zipIdx k).map fun x => (x.2, x.1) := by
        intro l
        induction l with
        | nil => intro k; rfl
        | cons y l ih => intro k; simp [List.range'_succ, ih (k + 1)]
      simpa using this (vs.map (·.pv)) 0
    have := run_buildSlice (P := P) W t e n (js.zip (vs.map (·.pv))).toArray (vs.flatMap fun x => x.cells.map (·.val)).toArray i zv hu hi hiz (by rw [hsz]; omega) (by
      rw [hsz]
      have := Nat.mul_pos hn0 hpos
      omega) (by rw [hsz]; rw [← hfill, hz1])
    exact this

theorem partsS_len {sz : Nat} : ∀ {js : List Nat} {vs : List SV} {i : Nat}, partsS sz i js vs → (vs.flatMap fun x => x.cells.map (·.val)).length = vs.length * sz
  | [], [], _, _ => by simp
  | j :: js, x :: xs, i, h => by
    obtain ⟨_, h1, _, h2⟩ := h
    rw [List.flatMap_cons, List.length_append, List.length_map, h1, partsS_len h2, List.length_cons, Nat.add_mul, Nat.one_mul, Nat.add_comm]
  | [], _ :: _, _, h => h.elim
  | _ :: _, [], _, h => h.elim
theorem vbuildSeen_sound {o : Oper} {t : TypeId} {n : Nat} {ps : Array (Nat × Operand)} {K : St → Prop} {ρ : Rho} {a : Act} {W : World} (ho : o.op = .buildSlice t n ps) (hw : st.wf = true) (hd : ∀ d', o.dst = some d' → d' < N) (hf : FOk N ρ st.e a) (hW : WOk W0 h0 ρ st.p st.h W)
    (h : vbuildSeen P st o t n ps K) : Runs P W0 h0 N o K ρ a W := by
  unfold vbuildSeen at h
  obtain ⟨vs, h, hlen, _, hx⟩ := getOs_sound (N := N) hw h
  obtain ⟨e, hu, hT, hpos, h⟩ := elemOn_spec h
  obtain ⟨z, hz, hzl, hsm, hpl, hp, h⟩ := zeroOn_spec h
  replace hx := hx rfl ρ a hf
  have hnone := sees_none_lt hW.sees (Nat.le_refl _)
  have hr := run_buildS (P := P) (W := W) (n := n) hu hT hpos hz hzl hsm (by rw [hlen]; simpa using hpl) hp ρ
  have hb := below_alloc W (.cells (vs.flatMap fun x => x.cells.map (·.val)).toArray e)
  refine ⟨.slice (some ⟨W.heap.size, 0, none⟩) n n, W.alloc (.cells (vs.flatMap fun x => x.cells.map (·.val)).toArray e), ?_, _, h W.heap.size hnone, ?_⟩
  · simp only [execOp, ho]
    have e1 : (ps.map fun (i, x) => (i, a.eval x)) = ((ps.toList.map (·.1)).zip (vs.map (·.conc ρ))).toArray := by
      rw [← hx]
      apply Array.toList_inj.1
      simp only [Array.toList_map, List.map_map, Function.comp_def]
      generalize ps.toList = l
      induction l with
      | nil => rfl
      | cons y l ih => simp [ih]
    rw [e1]
    exact run_value' hr
  · refine Conc.put_ (c := true) (sv := .c (.v (.slice (some ⟨W.heap.size, 0, none⟩) n n))) hf (hW.grow hb (Hp.ins_le hnone) (fun b o' hb' => ?_) (fun b o' hb' hbn => ?_)) (wf_p hw) (wf_e hw) hd rfl rfl
    · simp only [Hp.ins] at hb'
      split at hb'
      · rename_i eb; subst eb; simp only [Option.some.injEq] at hb'; subst hb'; exact heap_alloc_new W _
      · rw [hb.block b ?_]
        · exact hW.sees b o' hb'
        · exact (Array.getElem?_eq_some_iff.1 (hW.sees b o' hb')).1
    · simp only [Hp.ins] at hb'
      split at hb'
      · rename_i eb; omega
      · rw [hbn] at hb'; cases hb'

theorem vbuildS_sound {o : Oper} {t : TypeId} {n : Nat} {ps : Array (Nat × Operand)} {K : St → Prop} {ρ : Rho} {a : Act} {W : World} (ho : o.op = .buildSlice t n ps) (hw : st.wf = true) (hd : ∀ d', o.dst = some d' → d' < N) (hf : FOk N ρ st.e a) (hW : WOk W0 h0 ρ st.p st.h W)
    (h : getOs st true (ps.toList.map (·.2)) fun vs => elemOn P t fun e => 0 < szT P e ∧ zeroOn P e fun z => z.length = szT P e ∧ n * szT P e ≤ 16777216 ∧ ps.toList.length = n ∧ partsS (szT P e) 0 (ps.toList.map (·.1)) vs ∧
      K (St.mk (envPut st.e o.dst true (.c (.s st.nx))) ((st.nx, .row e (szT P e) n (vs.flatMap fun x => x.cells.map (·.val))) :: st.p) st.h (st.nx + 1))) : Runs P W0 h0 N o K ρ a W := by
  obtain ⟨vs, h, hlen, _, hx⟩ := getOs_sound (N := N) hw h
  obtain ⟨e, hu, hT, hpos, h⟩ := elemOn_spec h
  obtain ⟨z, hz, hzl, hsm, hpl, hp, h⟩ := zeroOn_spec h
  replace hx := hx rfl ρ a hf
  have hr := run_buildS (P := P) (W := W) (n := n) hu hT hpos hz hzl hsm (by rw [hlen]; simpa using hpl) hp ρ
  have hlen' : vs.length = n := by rw [hlen]; simpa using hpl
  have hfl : (vs.flatMap fun x => x.cells.map (·.val)).length = n * szT P e := by rw [partsS_len hp, hlen']
  refine ⟨.slice (some ⟨W.heap.size, 0, none⟩) n n, W.alloc (.cells (vs.flatMap fun x => x.cells.map (·.val)).toArray e), ?_, _, h, row_conc hw hd hf (wf_p hw) (row_new hW (wf_p hw) ?_ ⟨rfl, rfl, rfl, by simp, fun k hk _ => Below.heap_alloc W _ k hk⟩ (.inl rfl))⟩
  · simp only [execOp, ho]
    have e1 : (ps.map fun (i, x) => (i, a.eval x)) = ((ps.toList.map (·.1)).zip (vs.map (·.conc ρ))).toArray := by
      rw [← hx]
      apply Array.toList_inj.1
      simp only [Array.toList_map, List.map_map, Function.comp_def]
      generalize ps.toList = l
      induction l with
      | nil => rfl
      | cons y l ih => simp [ih]
    rw [e1]
    exact run_value' hr
  · refine ⟨hfl, .inr ⟨W.heap.size, n, _, rfl, Nat.zero_le _, heap_alloc_new W _, Nat.le_refl _, ?_, by simp [hfl], ?_⟩⟩
    · have h1 : n * 1 ≤ n * szT P e := Nat.mul_le_mul_left _ hpos
      rw [Nat.mul_one] at h1
      unfold maxLen
      omega
    · simp only
      rw [← hfl]; exact List.take_length

/-! ### append -/
theorem vsrc_sound {sz : Nat} {x : SV} {K : Nat → List Value → Prop} (hpos : 0 < sz) (h : vsrc st sz x K) :
    ∃ m ys, K m ys ∧ ∀ ρ W, WOk W0 h0 ρ st.p st.h W → ∃ A c, x.conc ρ = .slice A m c ∧ ys.length = m * sz ∧ (0 < m → ∃ ad, A = some ad) ∧ (A = none → c = 0 ∨ m = 0) ∧ ∀ ad, A = some ad → ∀ j u, ys[j]? = some u → W.cell? (ad.add j) = some u := by
  unfold vsrc at h
  split at h
  · rename_i y
    obtain ⟨hy, hs, h⟩ := h
    obtain ⟨l, hl, h1, h2, h3⟩ := Hp.ldL_spec hy hs
    rw [hl] at h
    refine ⟨_, _, h, fun ρ W hW => ⟨Value.A y, Value.C y, isA_eq hy, h1, fun h0 => h2 h0 hpos, fun hA => ?_, fun ad had => h3 W hW.sees ad had⟩⟩
    right
    rcases Nat.eq_zero_or_pos (Value.L y) with h0 | h0
    · exact h0
    · obtain ⟨ad, had⟩ := h2 h0 hpos
      rw [hA] at had
      cases had
  · rename_i r
    split at h
    · rename_i e' sz' m ys hl
      obtain ⟨rfl, h⟩ := h
      refine ⟨_, _, h, fun ρ W hW => ?_⟩
      have hb : W.ownsRow 0 e' sz' (ρ r) m ys := hW.priv r _ hl
      rcases hb.2 with ⟨hv, hm⟩ | ⟨b, cap, cur, hv, _⟩
      · exact ⟨none, 0, by simp [hv, hm], hb.1, fun h1 => by omega, fun _ => .inl rfl, fun ad had => by cases had⟩
      · refine ⟨some ⟨b, 0, none⟩, cap, by simp [hv], hb.1, fun _ => ⟨_, rfl⟩, fun he => (by cases he), fun ad had => ?_⟩
        simp only [Option.some.injEq] at had
        subst had
        exact hb.cells (g := b) (by rw [hv]; rfl)
    · cases h
  · cases h

theorem vdst_sound {e : TypeId} {sz : Nat} {x : SV} {K : Nat → List Value → List (Nat × PB) → Prop} (hw : st.wf = true) (h : vdst st e sz x K) :
    ∃ n xs p, K n xs p ∧ pbLt st.nx p = true ∧ (∀ r b, look r p = some b → look r st.p = some b) ∧
      ∀ ρ W, WOk W0 h0 ρ st.p st.h W → W.ownsRow 0 e sz (x.conc ρ) n xs ∧ (∀ k, (x.conc ρ).ownBlock = some k → st.h k = none ∧ W0.own k ∧ ∀ r b, look r p = some b → ¬ PB.at ρ r k) := by
  unfold vdst at h
  split at h
  · rename_i r
    split at h
    · rename_i e' sz' n xs hl
      obtain ⟨rfl, rfl, h⟩ := h
      refine ⟨_, _, _, h, pbLt_dropP (wf_p hw), fun r' b hr => (look_dropP hr).1, fun ρ W hW => ⟨hW.priv r _ hl, fun k hk => ?_⟩⟩
      have hat : PB.at ρ r k := by
        have hb : W.ownsRow 0 e' sz' (ρ r) n xs := hW.priv r _ hl
        rcases hb.2 with ⟨hv, _⟩ | ⟨b, cap, cur, hv, _⟩
        · simp [hv, Value.ownBlock] at hk
        · simp only [conc_c, conc_s, hv, Value.ownBlock, Option.some.injEq] at hk
          subst hk
          exact .inr ⟨_, _, hv⟩
      exact ⟨hW.apart r _ k hl hat, hW.own r _ k hl hat, fun r' b hr hat' => (look_dropP hr).2 (hW.distinct r' b r _ k (look_dropP hr).1 hl hat' hat)⟩
    · cases h
  · exact ⟨_, _, _, h, wf_p hw, fun _ _ x => x, fun ρ W hW => ⟨World.ownsRow_nil W _ e sz, fun k hk => by simp [Value.ownBlock] at hk⟩⟩
  · cases h

theorem run_append_nil_any {t ty e : TypeId} {W : World} {base sz n : Nat} {v : Value} {xs : List Value} (hu : P.underlying t = some (.slice e)) (hT : hasT P e = true) (hown : W.ownsRow base e sz v n xs) (c : Nat) :
    (Builtin.append_ #[t, t] ty #[v, .slice none 0 c]).run P W = .ok v W := by
  rcases hown.2 with ⟨rfl, rfl⟩ | ⟨g, cap, cur, rfl, _, _, hnc, _⟩
  · simp [Builtin.append_, run_underlying hu, run_sizeOf (P := P) hT, Builtin.lenOf, Builtin.firstCells]
  · simp [Builtin.append_, run_underlying hu, run_sizeOf (P := P) hT, Builtin.lenOf, Builtin.firstCells, hnc, storeCells]

theorem run_call_append {o : Oper} {c : Call} {s x : Operand} {t : TypeId} {a : Act} {W W' : World} {v : Value} (ho : o.op = .call c) (hc : c.callee = .builtin .append) (ha : c.args.toList = [s, x]) (ht : c.argTypes.toList = [t, t])
    (hr : (Builtin.append_ #[t, t] o.type #[a.eval s, a.eval x]).run P W = .ok v W') : (execOp a.eval o).run P W = .ok (.value v) W' := by
  obtain ⟨callee, args, ats⟩ := c
  simp only at hc ha ht
  have ha : args = #[s, x] := Array.toList_inj.1 ha
  have ht : ats = #[t, t] := Array.toList_inj.1 ht
  subst hc ha ht
  simp only [execOp, ho, resolve, invoke, builtin, Sem.run_bind, Sem.run_pure, Result.andThen_ok, List.map_toArray, List.map_cons, List.map_nil, hr]

theorem vappend_sound {o : Oper} {c : Call} {s x : Operand} {t : TypeId} {vs vx : SV} {K : St → Prop} {ρ : Rho} {a : Act} {W : World} (ho : o.op = .call c) (hc : c.callee = .builtin .append) (ha : c.args.toList = [s, x]) (ht : c.argTypes.toList = [t, t])
    (hw : st.wf = true) (hd : ∀ d', o.dst = some d' → d' < N) (hf : FOk N ρ st.e a) (hW : WOk W0 h0 ρ st.p st.h W) (hs : a.eval s = vs.conc ρ) (hx : a.eval x = vx.conc ρ)
    (h : vappend P st t vs vx fun e sz n xs p => K (St.mk (envPut st.e o.dst true (.c (.s st.nx))) ((st.nx, .row e sz n xs) :: p) st.h (st.nx + 1))) : Runs P W0 h0 N o K ρ a W := by
  unfold vappend at h
  obtain ⟨e, hu, hT, h⟩ := elemOn_spec h
  obtain ⟨z, hz, hzl, hpos, h⟩ := zeroOn_spec h
  obtain ⟨i, zv, hi, hiz, hzc, hsz, hby⟩ := zeroT_info hz
  obtain ⟨m, ys, h, hsrc⟩ := vsrc_sound (W0 := W0) (h0 := h0) hpos h
  obtain ⟨n, xs, p, h, hp, hsub, hdst⟩ := vdst_sound (W0 := W0) (h0 := h0) hw h
  obtain ⟨h1, hm1, hm2, h⟩ := h
  obtain ⟨A, cc, ex, hl, hA, hAn, hcell⟩ := hsrc ρ W hW
  obtain ⟨hown, hblk⟩ := hdst ρ W hW
  have hW' : ∀ v' W', W'.ownsRow 0 e (szT P e) v' (n + m) (xs ++ ys) → W.grownBy W' (vs.conc ρ).ownBlock → (v'.ownBlock = (vs.conc ρ).ownBlock ∨ v'.ownBlock = some W.heap.size) →
      WOk W0 h0 (upd ρ st.nx v') ((st.nx, .row e (szT P e) (n + m) (xs ++ ys)) :: p) st.h W' := by
    intro v' W' hown' hg hat
    have hkeep : ∀ k, k < W.heap.size → (vs.conc ρ).ownBlock ≠ some k → W'.heap[k]? = W.heap[k]? := fun k hk hne => hg.block k hk (Ne.symm hne)
    have hbl : BelowO W0 W' := hW.below.step hg.os hg.tape hg.output hg.size fun k hk hlt => hkeep k hlt (fun he => hk (hblk k he).2.1)
    have hptr : ∀ a, v' ≠ .pointer a := by
      rintro a rfl
      rcases hown'.2 with ⟨h1, _⟩ | ⟨g', cap, cur, h1, _⟩ <;> cases h1
    have hown_at : ∀ k, atV v' k → v'.ownBlock = some k := by
      intro k hk
      rcases hk with hk | ⟨q, r, hk⟩
      · exact (hptr _ hk).elim
      · rw [hk]; rfl
    refine (hW.add (wf_p hw) hsub hbl (sees_keep hW.sees fun k hk => hkeep k ?_ (fun he => hk (hblk k he).1)) (fun k hk => ?_) (fun r b hr => PB.ok_keep (hW.priv r b (hsub r b hr)) fun k hk => hkeep k (PB.ok_lt (hW.priv r b (hsub r b hr)) hk).2 (fun he => (hblk k he).2.2 r b hr hk)) ?_ (fun k hk => ?_) (fun r b k hr hat' hk => ?_))
    · rcases Nat.lt_or_ge k W.heap.size with hlt | hge
      · exact hlt
      · exact (hk (sees_none_lt hW.sees hge)).elim
    · have := hown_at k hk
      rcases hat with hat | hat
      · exact (hblk k (by rw [← hat, this])).2.1
      · rw [hat] at this
        simp only [Option.some.injEq] at this
        rw [← this]; exact W0.big _ hW.below.size
    · show W'.ownsRow 0 e (szT P e) (upd ρ st.nx v' st.nx) _ _
      rw [upd_same]; exact hown'
    · have := hown_at k hk
      rcases hat with hat | hat
      · exact (hblk k (by rw [← hat, this])).1
      · rw [hat] at this
        simp only [Option.some.injEq] at this
        rw [← this]; exact sees_none_lt hW.sees (Nat.le_refl _)
    · have := hown_at k hk
      rcases hat with hat | hat
      · exact (hblk k (by rw [← hat, this])).2.2 r b hr hat'
      · rw [hat] at this
        simp only [Option.some.injEq] at this
        have h2 := (PB.ok_lt (hW.priv r b (hsub r b hr)) hat').2
        omega
  cases A with
  | none =>
    have hm0 : m = 0 := by
      rcases Nat.eq_zero_or_pos m with h0 | h0
      · exact h0
      · obtain ⟨ad, had⟩ := hA h0; cases had
    subst hm0
    have hys : ys = [] := List.eq_nil_of_length_eq_zero (by simpa using hl)
    subst hys
    have hr := run_append_nil_any (P := P) (ty := o.type) hu hT hown cc
    refine ⟨_, W, run_call_append ho hc ha ht (by rw [hs, hx, ex]; exact hr), _, h, row_conc hw hd hf hp ?_⟩
    exact hW' _ W (by simpa using hown) (World.grownBy.refl W _) (.inl rfl)
  | some ad =>
    obtain ⟨v', W', hr, hown', hg, _, hat⟩ := run_append_own_at (P := P) W 0 t o.type e i zv (szT P e) (P.bytesOf e) hu hi hiz hsz hby (by rw [hzc]; simpa using hzl) hpos (vs.conc ρ) n xs hown ad m cc ys hl (hcell ad rfl) h1 hm1 hm2 (Nat.zero_le _)
    exact ⟨_, W', run_call_append ho hc ha ht (by rw [hs, hx, ex]; exact hr), _, h, row_conc hw hd hf hp (hW' v' W' hown' hg hat)⟩

theorem vappendF_sound {o : Oper} {c : Call} {s x : Operand} {t : TypeId} {y : Value} {vx : SV} {K : St → Prop} {ρ : Rho} {a : Act} {W : World} (ho : o.op = .call c) (hc : c.callee = .builtin .append) (ha : c.args.toList = [s, x]) (ht : c.argTypes.toList = [t, t])
    (hw : st.wf = true) (hd : ∀ d', o.dst = some d' → d' < N) (hf : FOk N ρ st.e a) (hW : WOk W0 h0 ρ st.p st.h W) (hs : a.eval s = y) (hx : a.eval x = vx.conc ρ)
    (h : vappendF P st t y vx fun e sz n xs => K (St.mk (envPut st.e o.dst true (.c (.s st.nx))) ((st.nx, .row e sz n xs) :: st.p) st.h (st.nx + 1))) : Runs P W0 h0 N o K ρ a W := by
  unfold vappendF at h
  obtain ⟨e, hu, hT, h⟩ := elemOn_spec h
  obtain ⟨z, hz, hzl, hpos, hy, hfull, hyA, hys, h⟩ := zeroOn_spec h
  obtain ⟨i, zv, hi, hiz, hzc, hsz, hby⟩ := zeroT_info hz
  obtain ⟨xs, hxs, hxl, _, hxc⟩ := Hp.ldL_spec hy hys
  obtain ⟨m, ys, h, hsrc⟩ := vsrc_sound (W0 := W0) (h0 := h0) hpos h
  obtain ⟨hm, h1, hm1, hm2, h⟩ := h
  obtain ⟨A, cc, ex, hl, hA, hAn, hcell⟩ := hsrc ρ W hW
  obtain ⟨ad, rfl⟩ := hA hm
  obtain ⟨ay, hay⟩ := Option.isSome_iff_exists.1 hyA
  have hyv : y = .slice (some ay) (Value.L y) (Value.L y) := by
    have := isA_eq hy
    rw [hay, hfull] at this
    exact this
  rw [hxs, Option.getD_some] at h
  have hr := run_append_grow (P := P) W t o.type e i zv hu hi hiz ay (Value.L y) (Value.L y) xs (by rw [hsz]; exact hxl) (hxc W hW.sees ay hay) ad m cc ys (by rw [hsz]; exact hl) (hcell ad rfl) (by omega)
    (by have := hm1; unfold maxLen at this; omega) (by rw [hby]; exact growslice_fits (by omega) hm2)
  have hge := grownCap_ge W (Value.L y + m) (Value.L y) e
  have hcm : grownCap W (Value.L y + m) (Value.L y) e ≤ maxLen := grownCap_le_maxLen W (Value.L y + m) (Value.L y) e hm1
  refine ⟨_, _, run_call_append ho hc ha ht (by rw [hs, hx, ex, hyv]; exact hr), _, h, row_conc hw hd hf (wf_p hw) (row_new hW (wf_p hw) ⟨by rw [List.length_append, hxl, hl, Nat.add_mul], .inr ⟨W.heap.size, _, _, rfl, Nat.zero_le _, heap_alloc_new W.drew _, hge, hcm, ?_, ?_⟩⟩ ⟨rfl, rfl, rfl, by simp, fun k hk _ => Below.heap_alloc W.drew _ k hk⟩ (.inl rfl))⟩
  · simp only [Array.size_append, List.size_toArray, size_zeroCells, hxl, hl, ← Nat.add_mul, show zv.cells.size = szT P e by rw [hzc]; simpa using hzl]
    congr 1
    omega
  · simp only [Array.toList_append, List.append_assoc]
    rw [← List.append_assoc, show (Value.L y + m) * szT P e = (xs ++ ys).length by rw [List.length_append, hxl, hl, Nat.add_mul]]
    exact List.take_left
end
end Go.SL
