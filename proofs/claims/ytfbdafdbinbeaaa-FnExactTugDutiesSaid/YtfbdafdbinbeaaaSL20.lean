/- Plain theorems about the model: a symbolic state, its evaluation and its soundness. No condition; nothing of the program is named. -/
import Derived.Test.YtfbdafdbinbeaaaSLL
set_option linter.unusedVariables false
set_option linter.unusedSimpArgs false
namespace Go.SL
open Go Go.RowKit

/-! ### calls and stores that write into seen memory -/
@[irreducible] def Cw (P : Program) (f : FuncId) (args : List Value) (h : Hp) (M : Nat → Prop) (R : Value → Hp → Prop) : Prop :=
  (∀ A W, (callFunc f A).run P W = .ok (.enter f A) W) ∧
  ∀ W, Sees h W → Calls P f args.toArray W fun e W' => ∃ v h', e = .returned v ∧ R v h' ∧
    (W'.os = W.os ∧ W'.tape = W.tape ∧ W'.output = W.output ∧ W.heap.size ≤ W'.heap.size ∧ ∀ k, k < W.heap.size → ¬ M k → W'.heap[k]? = W.heap[k]?) ∧
    (∀ b o, h b = some o → ¬ M b → h' b = some o) ∧ Sees h' W' ∧ ∀ b o, h' b = some o → h b = none → W.heap.size ≤ b

theorem Cw_of_T {P : Program} {f : FuncId} {fn : Func} {c : Code} {args : List Value} {h : Hp} {M : Nat → Prop} {R : Value → Hp → Prop} {rs : List ResultVar} (hcall : ∀ A W, (callFunc f A).run P W = .ok (.enter f A) W) (hf : P.funcs[f]? = some fn) (hb : fn.body = some c) (hrs : fn.results = rs.toArray)
    (hN : args.length ≤ fn.ntmps) (hM : ∀ b, M b → h b ≠ none)
    (H : ∀ W0 : Base, (∀ b, M b → W0.own b) → T ⟨P, W0, h, fn.ntmps⟩ ⟨envArgs 0 args, [], h, 0⟩ c fun e st => match e with
      | .normal => resAll P st rs fun vs => R (resVal vs) st.h
      | .ret => resAll P st rs fun vs => R (resVal vs) st.h
      | _ => False) : Cw P f args h M R := by
  unfold Cw
  refine ⟨hcall, fun W hs => calls_of_wp hf hb ?_⟩
  have hin : ∀ b o, h b = some o → b < W.heap.size := fun b o hb => (Array.getElem?_eq_some_iff.1 (hs b o hb)).1
  have H := H ⟨W, fun g => W.heap.size ≤ g ∨ M g, fun _ x => .inl x⟩ (fun b hb => .inr hb)
  unfold T at H
  refine Code.wp_mono ?_ (H _ W ⟨fun _ => undef, ⟨rfl, by simp; omega, fun t cc sv hl => ?_⟩, ⟨⟨rfl, rfl, rfl, Nat.le_refl _, fun _ _ => rfl⟩, hs, fun b o x _ => x, fun b o h1 h2 => ?_, fun r b g hr => (by cases hr), fun r b hr => (by cases hr), fun r b g hr => (by cases hr), fun r b r' b' g hr => (by cases hr)⟩, ?_⟩)
  · rintro e a' W' ⟨st', hq, ⟨ρ, hfo, hW, hw⟩⟩
    have fin : (resAll P st' rs fun vs => R (resVal vs) st'.h) → a'.defers = [] ∧ ∃ v, (results fn a'.tmps).run P W' = .ok v W' ∧ ∃ v' h', Ending.returned v = .returned v' ∧ R v' h' ∧ (W'.os = W.os ∧ W'.tape = W.tape ∧ W'.output = W.output ∧ W.heap.size ≤ W'.heap.size ∧ ∀ k, k < W.heap.size → ¬ M k → W'.heap[k]? = W.heap[k]?) ∧ (∀ b o, h b = some o → ¬ M b → h' b = some o) ∧ Sees h' W' ∧ ∀ b o, h' b = some o → h b = none → W.heap.size ≤ b := by
      intro hres
      obtain ⟨vs, hk, hrun⟩ := resAll_sound (P := P) (W0 := ⟨W, fun g => W.heap.size ≤ g ∨ M g, fun _ x => .inl x⟩) (h0 := h) (N := fn.ntmps) hw hres
      refine ⟨hfo.1, resVal vs, ?_, _, _, rfl, hk, ⟨hW.below.os, hW.below.tape, hW.below.output, hW.below.size, fun k hk hn => hW.below.block k (fun x => x.elim (Nat.not_le_of_lt hk) hn)⟩, fun b o hb hn => hW.ext b o hb (fun x => x.elim (Nat.not_le_of_lt (hin b o hb)) hn), hW.sees, fun b o h1 h2 => ?_⟩
      · have h1 : (rs.toArray.toList.mapM (m := Sem) fun
          | .tmp t => pure (a'.tmps.getD t undef)
          | .cell ad t => do loadVar t (← asAddr (a'.tmps.getD ad undef))).run P W' = .ok vs W' := hrun ρ a' W' hfo hW
        unfold results
        rw [hrs, Sem.run_bind, Array.mapM_eq_mapM_toList]
        have e : ∀ m : Sem (List Value), (List.toArray <$> m) = m >>= fun l => pure l.toArray := fun _ => rfl
        rw [e, Sem.run_bind]
        refine Eq.trans (congrArg (fun (r : Result (List Value)) => (r.andThen fun a w' => Sem.run P (pure a.toArray) w').andThen fun a w' => Sem.run P (pure (if h : a.size = 1 then a[0] else Value.tuple a)) w') h1) ?_
        simp only [Result.andThen_ok, Sem.run_pure]
        match vs with
        | [] => rfl
        | [v] => rfl
        | _ :: _ :: _ => rfl
      · rcases hW.new b o h1 h2 with hx | hx
        · exact hx
        · exact (hM b hx h2).elim
    cases e with
    | normal => exact fin hq
    | ret => exact fin hq
    | _ => exact hq.elim
  · obtain ⟨j, v, h1, h2, rfl, rfl⟩ := envArgs_look hl
    have hj : j < args.length := (List.getElem?_eq_some_iff.1 h2).1
    rw [if_pos rfl, SV.conc_of, h1, Nat.zero_add]
    have := (List.getElem?_eq_some_iff.1 h2).2
    simp [Array.getElem?_append, hj, this]
  · exact absurd (h1.symm.trans h2) (by simp)
  · simp [St.wf, envArgs_lt, pbLt]

theorem WOk.wrote {W0 : Base} {h0 : Hp} {ρ : Rho} {p : List (Nat × PB)} {h h' : Hp} {W W' : World} {M : Nat → Prop} (hW : WOk W0 h0 ρ p h W)
    (hb : W'.os = W.os ∧ W'.tape = W.tape ∧ W'.output = W.output ∧ W.heap.size ≤ W'.heap.size ∧ ∀ k, k < W.heap.size → ¬ M k → W'.heap[k]? = W.heap[k]?)
    (hM : ∀ b, M b → h b ≠ none ∧ W0.own b) (hk : ∀ b o, h b = some o → ¬ M b → h' b = some o) (hs : Sees h' W') (hn : ∀ b o, h' b = some o → h b = none → W.heap.size ≤ b) : WOk W0 h0 ρ p h' W' := by
  have hpr : ∀ r b g, look r p = some b → PB.at ρ r g → ¬ M g := fun r b g hr hat hm => (hM g hm).1 (hW.apart r b g hr hat)
  refine ⟨hW.below.step hb.1 hb.2.1 hb.2.2.1 hb.2.2.2.1 fun k hk hlt => hb.2.2.2.2 k hlt (fun hm => hk (hM k hm).2), hs, fun b o h1 h2 => hk b o (hW.ext b o h1 h2) (fun hm => h2 (hM b hm).2), fun b o hb' h0b => ?_, hW.own, fun r b hr => ?_, fun r b g hr hat => ?_, hW.distinct⟩
  · cases hh : h b with
    | some o' => exact hW.new b o' hh h0b
    | none => exact W0.big b (Nat.le_trans hW.below.size (hn b o hb' hh))
  · exact PB.ok_keep (hW.priv r b hr) fun g hg => hb.2.2.2.2 g (PB.ok_lt (hW.priv r b hr) hg).2 (hpr r b g hr hg)
  · cases hh : h' g with
    | none => rfl
    | some o =>
      have h1 := hn g o hh (hW.apart r b g hr hat)
      have h2 := (PB.ok_lt (hW.priv r b hr) hat).2
      omega

/-- A call that may write. -/
@[irreducible] def vfnW (x : Cx) (st : St) (f : FuncId) (args : List Value) (K : Value → Hp → Prop) : Prop :=
  ∃ M R, Cw x.P f args st.h M R ∧ (∀ b, M b → st.h b ≠ none ∧ (x.h0 b = none ∨ x.W0.own b)) ∧ ∀ v h', (∀ b o, st.h b = some o → ¬ M b → h' b = some o) → (∀ b, h' b ≠ none → st.h b = none → x.W0.own b) → R v h' → K v h'
theorem vfnW_at {x : Cx} {st : St} {f : FuncId} {args : List Value} {K : Value → Hp → Prop} {M : Nat → Prop} {R : Value → Hp → Prop} {h : Hp} (H : Cw x.P f args h M R) (hh : st.h = h) (hM : ∀ b, M b → h b ≠ none ∧ (x.h0 b = none ∨ x.W0.own b))
    (hk : ∀ v h', (∀ b o, h b = some o → ¬ M b → h' b = some o) → R v h' → K v h') : vfnW x st f args K := by
  unfold vfnW; subst hh; exact ⟨M, R, H, hM, fun v h' k1 _ k2 => hk v h' k1 k2⟩
theorem vfnW_own {x : Cx} {st : St} {f : FuncId} {args : List Value} {K : Value → Hp → Prop} {M : Nat → Prop} {R : Value → Hp → Prop} {h : Hp} (H : Cw x.P f args h M R) (hh : st.h = h) (hM : ∀ b, M b → h b ≠ none ∧ (x.h0 b = none ∨ x.W0.own b))
    (hk : ∀ v h', (∀ b o, h b = some o → ¬ M b → h' b = some o) → (∀ b, h' b ≠ none → h b = none → x.W0.own b) → R v h' → K v h') : vfnW x st f args K := by
  unfold vfnW; subst hh; exact ⟨M, R, H, hM, hk⟩
def vcallW (x : Cx) (st : St) (vf : SV) (vs : List SV) (K : Value → Hp → Prop) : Prop :=
  match vf with
  | .c (.v (.func (.func f) fs cs)) => (vs.all (·.plain)) = true ∧ vfnW x st f (fs.toList ++ (vs.map (·.pv) ++ cs.toList)) K
  | _ => False
/-- A store through a seen pointer. -/
def vstoreS (x : Cx) (st : St) (t : TypeId) (a y : SV) (K : Hp → Prop) : Prop :=
  hasT x.P t = true ∧ y.plain = true ∧ (y.cells.all fun c => c.val.oneCell') = true ∧ y.cells.length = szT x.P t ∧ ∃ b off cur e, a = .c (.v (.pointer (some ⟨b, off, none⟩))) ∧ st.h b = some (.cells cur e (0, 0)) ∧ (x.h0 b = none ∨ x.W0.own b) ∧ off + szT x.P t ≤ cur.size ∧
    K (st.h.ins b (.cells (spliceC off (y.cells.map (·.val)) cur.toList).toArray e (0, 0)))
def vopX (x : Cx) (st : St) (o : Oper) (K : St → Prop) : Prop :=
  o.guard = none ∧ match o.op with
  | .call c => (match c.callee with
    | .value f => getO st true f fun vf => getOs st true c.args.toList fun vs => vcallW x st vf vs fun v h' => K (St.mk (envPut st.e o.dst true (.of v)) st.p h' st.nx)
    | _ => False)
  | .buildSlice t n ps => vbuildSeen x.P st o t n ps K
  | .store t a y => o.dst = none ∧ getO st true a fun va => getO st true y fun vy => vstoreS x st t va vy fun h' => K (St.mk st.e st.p h' st.nx)
  | .makeFunc fn fs cs => getOs st true fs.toList fun us => getOs st true cs.toList fun vs => (us.all (·.plain)) = true ∧ (vs.all (·.plain)) = true ∧ K (St.mk (envPut st.e o.dst true (.c (.v (.func fn (us.map (·.pv)).toArray (vs.map (·.pv)).toArray)))) st.p st.h st.nx)
  | _ => False
/-- The row that a slot holds becomes a seen slice. -/
def vpub (st : St) (d : Option Nat) (K : St → Prop) : Prop :=
  onD d fun t => match look t st.e with
    | some (true, .c (.s r)) => (match look r st.p with
      | some (.row e sz n xs) => ∀ ad cap h', Pub st.h e sz n xs ad cap h' → K (st.sub r (.slice ad n cap) h')
      | _ => False)
    | _ => False
/-- Marks of operations: 0 as they come, 1 writes into seen memory, 2 its row is seen from there on. -/
def vopsX (x : Cx) (ops : List Oper) (K : St → Prop) : List Nat → List Oper → St → Prop
  | [], l, st => vops x.P ops l st K
  | 0 :: bs, o :: l, st => vop x.P ops st o fun st' => vopsX x ops K bs l st'
  | 1 :: bs, o :: l, st => vopX x st o fun st' => vopsX x ops K bs l st'
  | _ :: bs, o :: l, st => vop x.P ops st o fun st' => vpub st' o.dst fun st' => vopsX x ops K bs l st'
  | _ :: _, [], _ => False

section
variable {x : Cx} {st : St} {Q : Exit → St → Prop}
theorem vcallW_form {vf : SV} {vs : List SV} {K : Value → Hp → Prop} (h : vcallW x st vf vs K) : ∃ fn fs cs, vf = .c (.v (.func (.func fn) fs cs)) := by
  unfold vcallW at h
  split at h
  · exact ⟨_, _, _, rfl⟩
  · exact h.elim
theorem Conc.own_new {W0 : Base} {h0 : Hp} {ρ : Rho} {p : List (Nat × PB)} {h : Hp} {W : World} (hW : WOk W0 h0 ρ p h W) {b : Nat} (h1 : h b ≠ none) (h2 : h0 b = none ∨ W0.own b) : W0.own b := by
  rcases h2 with h2 | h2
  · cases hh : h b with
    | none => exact (h1 hh).elim
    | some o => exact hW.new b o hh h2
  · exact h2
theorem vopX_sound {o : Oper} {K : St → Prop} {QQ : Exit → Act → World → Prop} {a : Act} {W : World} (hd : ∀ d', o.dst = some d' → d' < x.N) (h : vopX x st o K) (hC : Conc x.W0 x.h0 x.N st a W) :
    (∀ tm, Region.wanted o tm = true) ∧ o.wp x.P a W (fun a' W' => ∃ st', K st' ∧ Conc x.W0 x.h0 x.N st' a' W') QQ := by
  obtain ⟨ρ, hf, hW, hw⟩ := hC
  obtain ⟨hg, h⟩ := h
  refine ⟨fun tm => by simp [Region.wanted, hg], ?_⟩
  split at h
  · rename_i c ho
    split at h
    · rename_i f hc
      obtain ⟨vf, h, _, hvf⟩ := getO_sound (N := x.N) hw h
      obtain ⟨vs, h, _, _, hvs⟩ := getOs_sound (N := x.N) hw h
      obtain ⟨fn, fs, cs, rfl⟩ := vcallW_form h
      obtain ⟨hp, h⟩ := h
      unfold vfnW at h
      obtain ⟨M, R, hfn, hM, hk⟩ := h
      unfold Cw at hfn
      obtain ⟨hcall, hcalls⟩ := hfn
      replace hvf := hvf rfl ρ a hf
      replace hvs := hvs rfl ρ a hf
      rw [SV.mapconc hp] at hvs
      have hrun : (execOp a.eval o).run x.P W = .ok (.enter fn (fs.toList ++ (vs.map (·.pv) ++ cs.toList)).toArray) W := by
        obtain ⟨callee, args, ats⟩ := c
        simp only at hc hvs
        subst hc
        have e1 : args.map a.eval = (vs.map (·.pv)).toArray := Array.toList_inj.1 (by rw [Array.toList_map, hvs])
        simp only [execOp, ho]
        simp only [resolve, hvf, conc_c, conc_v, e1, Sem.run_bind, Deferred.ofValue, Sem.run_pure, Result.andThen_ok, invoke]
        rw [hcall]
        congr 3
        apply Array.toList_inj.1
        simp
      unfold Oper.wp
      rw [hrun]
      simp only [Oper.upon]
      refine (hcalls W hW.sees).mono ?_
      rintro e W' ⟨v, h', rfl, hR, hb, hkeep, hs, hn⟩
      exact ⟨_, hk v h' hkeep (fun b h1 h2 => by
        cases hh : h' b with
        | none => exact (h1 hh).elim
        | some o => exact x.W0.big b (Nat.le_trans hW.below.size (hn b o hh h2))) hR, Conc.put_ (c := true) hf (hW.wrote hb (fun b hb => ⟨(hM b hb).1, Conc.own_new hW (hM b hb).1 (hM b hb).2⟩) hkeep hs hn) (wf_p hw) (wf_e hw) hd (SV.of_lt _ _) (by simp [SV.conc_of])⟩
    · exact h.elim
  · rename_i t n ps ho
    obtain ⟨v, W', hr, hk⟩ := vbuildSeen_sound ho hw hd hf hW h
    unfold Oper.wp
    rw [hr]
    exact hk
  · rename_i t ea ey ho
    obtain ⟨hn, h⟩ := h
    obtain ⟨va, h, _, hx⟩ := getO_sound (N := x.N) hw h
    obtain ⟨vy, h, hly, hy⟩ := getO_sound (N := x.N) hw h
    obtain ⟨ht, hpl, hone, hlen, b, off, cur, e, rfl, hb, hown, hle, hk⟩ := h
    replace hx := hx rfl ρ a hf
    replace hy := hy rfl ρ a hf
    have hbo : x.W0.own b := Conc.own_new hW (by rw [hb]; simp) hown
    have hvals : vy.cells.map (·.conc ρ) = vy.cells.map (·.val) := SV.plain_cells hpl ρ
    have hcell : (vy.conc ρ).cells = (vy.cells.map (·.val)).toArray := by
      rw [← hvals]
      rcases SV.cells_conc ρ vy with h | ⟨r, rfl⟩
      · exact h
      · exact absurd hpl (by simp [SV.plain, plainC])
    have hr := vstore_run (P := x.P) (t := t) (o := off) (vs := vy.cells.map (·.val)) ht hcell (by simpa using hlen) (hW.sees _ _ hb) (by simp [hlen]; omega) (fun u hu => by
      obtain ⟨c, hc, rfl⟩ := List.mem_map.1 hu
      exact List.all_eq_true.1 hone c hc)
    have hrun : (execOp a.eval o).run x.P W = .ok .skip (W.setRow b (spliceC off (vy.cells.map (·.val)) cur.toList).toArray) := by
      simp only [execOp, ho, hx, hy, conc_c, conc_v]
      simp [Sem.run_bind, hr]
    unfold Oper.wp
    rw [hrun]
    have hother : ∀ k, k ≠ b → (W.setRow b (spliceC off (vy.cells.map (·.val)) cur.toList).toArray).heap[k]? = W.heap[k]? := fun k hk => setRow_other W b k _ hk
    refine ⟨_, hk, ρ, by simpa [Act.put, hn] using hf, hW.wrote (M := fun k => k = b) ⟨rfl, rfl, rfl, by simp [World.setRow], fun k _ hk => hother k hk⟩ (fun k hk => by subst hk; exact ⟨by rw [hb]; simp, hbo⟩) (fun k o hk hne => by simp only [Hp.ins, if_neg hne]; exact hk) (fun k o hko => ?_) (fun k o h1 h2 => ?_), hw⟩
    · simp only [Hp.ins] at hko
      split at hko
      · rename_i e'; subst e'; injection hko with hko; subst hko; exact setRow_heap W _ _ _ _ _ (hW.sees _ _ hb)
      · rename_i hne; rw [hother k hne]; exact hW.sees k o hko
    · simp only [Hp.ins] at h1
      split at h1
      · rename_i e'; subst e'; rw [hb] at h2; cases h2
      · rw [h2] at h1; cases h1
  · rename_i fn fs cs ho
    obtain ⟨us, h, _, _, hus⟩ := getOs_sound (N := x.N) hw h
    obtain ⟨vs, h, _, _, hvs⟩ := getOs_sound (N := x.N) hw h
    obtain ⟨hp1, hp2, hk⟩ := h
    replace hus := hus rfl ρ a hf
    replace hvs := hvs rfl ρ a hf
    rw [SV.mapconc hp1] at hus
    rw [SV.mapconc hp2] at hvs
    have e1 : fs.map a.eval = (us.map (·.pv)).toArray := Array.toList_inj.1 (by rw [Array.toList_map, hus])
    have e2 : cs.map a.eval = (vs.map (·.pv)).toArray := Array.toList_inj.1 (by rw [Array.toList_map, hvs])
    have hrun : (execOp a.eval o).run x.P W = .ok (.value (.func fn (us.map (·.pv)).toArray (vs.map (·.pv)).toArray)) W := by
      simp only [execOp, ho, e1, e2]
      simp [Sem.run_bind, Instr.makeFunc]
    unfold Oper.wp
    rw [hrun]
    exact ⟨_, hk, Conc.put_ (c := true) hf hW (wf_p hw) (wf_e hw) hd rfl (by simp)⟩
  · exact h.elim

theorem vpub_sound {d : Option Nat} {K : St → Prop} {a : Act} {W : World} (h : vpub st d K) (hC : Conc x.W0 x.h0 x.N st a W) : ∃ st', K st' ∧ Conc x.W0 x.h0 x.N st' a W := by
  unfold vpub onD at h
  split at h
  · split at h
    · split at h
      · rename_i hr
        obtain ⟨ad, cap, h', hp, hC'⟩ := hC.pub hr
        exact ⟨_, h ad cap h' hp, hC'⟩
      · exact h.elim
    · exact h.elim
  · exact h.elim
theorem vopsX_sound {ops : List Oper} {K : St → Prop} {QQ : Exit → Act → World → Prop} (hQ : ∀ st' a' W', K st' → Conc x.W0 x.h0 x.N st' a' W' → QQ .normal a' W') : ∀ {bs : List Nat} {l : List Oper} {st : St} {a : Act} {W : World}, dstOk x.N l = true → vopsX x ops K bs l st → Conc x.W0 x.h0 x.N st a W →
    wpList x.P ops.toArray QQ l a W
  | [], l, st, a, W, hd, h, hC => by
    have h : vops x.P ops l st K := by cases l <;> exact h
    exact vops_sound hd hQ h hC
  | b :: bs, [], st, a, W, hd, h, hC => by
    match b, h with
    | 0, h => exact h.elim
    | 1, h => exact h.elim
    | b + 2, h => exact h.elim
  | b :: bs, o :: l, st, a, W, hd, h, hC => by
    simp only [dstOk, Bool.and_eq_true] at hd
    have hd1 : ∀ d', o.dst = some d' → d' < x.N := by
      intro d' e
      have := hd.1
      rw [e] at this
      simpa using this
    have gen : ∀ {K' : St → Prop}, vop x.P ops st o K' → (∀ st' a' W', K' st' → Conc x.W0 x.h0 x.N st' a' W' → ∃ st'', vopsX x ops K bs l st'' ∧ Conc x.W0 x.h0 x.N st'' a' W') → wpList x.P ops.toArray QQ (o :: l) a W := by
      intro K' h hn
      have := vop_sound (Q := QQ) hd1 h hC
      simp only [wpList]
      rcases this with ⟨hw, hwp⟩ | ⟨hw, st', hk, hC'⟩
      · rw [if_pos hw]
        left
        refine Oper.wp_mono ?_ hwp
        rintro a' W' ⟨st', hk, hC'⟩
        obtain ⟨st'', hk, hC''⟩ := hn st' a' W' hk hC'
        exact vopsX_sound hQ hd.2 hk hC''
      · rw [if_neg (by simp [hw])]
        obtain ⟨st'', hk, hC''⟩ := hn st' _ W hk hC'
        exact vopsX_sound hQ hd.2 hk hC''
    match b, h with
    | 0, h => exact gen h fun st' a' W' hk hC' => ⟨st', hk, hC'⟩
    | 1, h =>
      obtain ⟨hw, hwp⟩ := vopX_sound (QQ := QQ) hd1 h hC
      simp only [wpList]
      rw [if_pos (hw _)]
      left
      refine Oper.wp_mono ?_ hwp
      rintro a' W' ⟨st', hk, hC'⟩
      exact vopsX_sound hQ hd.2 hk hC'
    | b + 2, h => exact gen h fun st' a' W' hk hC' => vpub_sound hk hC'

/-- A region some of whose operations write into seen memory. -/
theorem T_regionX {id : Nat} {ops : List Oper} (n : List Nat) (hd : dstOk x.N ops = true) (h : vopsX x ops (fun st' => Q .normal st') n ops st) : T x st (.region id ops.toArray false) Q := by
  unfold T
  intro a W hC
  exact wp_region_lit (vopsX_sound (fun st' a' W' hk hC' => ⟨st', hk, hC'⟩) hd h hC)
theorem T_seq_regionX {id : Nat} {ops : List Oper} {d : Code} (n : List Nat) (hd : dstOk x.N ops = true) (h : vopsX x ops (fun st' => T x st' d Q) n ops st) : T x st (.seq (.region id ops.toArray false) d) Q :=
  T_seq (T_regionX n hd h)

/-- A new seen slice is taken as private. -/
theorem T_adopt {c : Code} (t : Nat) {b n cap : Nat} {cur : Array Value} {e : TypeId} (sz : Nat) (h' : Hp) (ht : look t st.e = some (true, .c (.v (.slice (some ⟨b, 0, none⟩) n cap)))) (hb : st.h b = some (.cells cur e (0, 0)))
    (hb' : h' b = none) (hkeep : ∀ k, k ≠ b → h' k = st.h k) (h0 : x.h0 b = none) (hsz : cur.size = cap * sz) (hn : n ≤ cap) (hc : cap ≤ maxLen)
    (h : T x ⟨(t, true, .c (.s st.nx)) :: st.e, (st.nx, .row e sz n (cur.toList.take (n * sz))) :: st.p, h', st.nx + 1⟩ c Q) : T x st c Q := by
  unfold T at *
  rintro a W ⟨ρ, hf, hW, hw⟩
  have hown : x.W0.own b := hW.new b _ hb h0
  have hle : ∀ k o, h' k = some o → st.h k = some o := fun k o hk => by
    by_cases e : k = b
    · subst e; rw [hb'] at hk; cases hk
    · rw [← hkeep k e]; exact hk
  refine h a W ⟨upd ρ st.nx (.slice (some ⟨b, 0, none⟩) n cap), ?_, ?_, ?_⟩
  · have hf' := hf.congr (wf_e hw) (upd_lt ρ st.nx (.slice (some ⟨b, 0, none⟩) n cap))
    refine ⟨hf'.1, hf'.2.1, fun t' c sv hl => ?_⟩
    simp only [look] at hl
    split at hl
    · rename_i e; subst e
      simp only [Option.some.injEq, Prod.mk.injEq] at hl
      obtain ⟨rfl, rfl⟩ := hl
      rw [if_pos rfl, conc_c, conc_s, upd_same]
      have := hf.2.2 _ _ _ ht
      simpa using this
    · exact hf'.2.2 t' c sv hl
  · have base : WOk x.W0 x.h0 ρ st.p h' W := by
      refine ⟨hW.below, fun k o hk => hW.sees k o (hle k o hk), fun k o h1 h2 => ?_, fun k o h1 h2 => hW.new k o (hle k o h1) h2, hW.own, hW.priv, fun r b' g hr hat => ?_, hW.distinct⟩
      · by_cases e : k = b
        · subst e; exact (h2 hown).elim
        · rw [hkeep k e]; exact hW.ext k o h1 h2
      · have := hW.apart r b' g hr hat
        by_cases e : g = b
        · subst e; exact hb'
        · rw [hkeep g e]; exact this
    refine base.add (wf_p hw) (fun _ _ x => x) base.below base.sees (fun g hg => ?_) (fun r b' hr => base.priv r b' hr) ?_ (fun g hg => ?_) (fun r b' g hr hat hv => ?_)
    · rcases hg with hg | ⟨_, _, hg⟩
      · cases hg
      · injection hg with hg; injection hg with hg; injection hg with hg; subst hg; exact hown
    · show W.ownsRow 0 e sz (upd ρ st.nx _ st.nx) n _
      rw [upd_same]
      refine ⟨by rw [List.length_take, Array.length_toList, hsz, Nat.min_eq_left (Nat.mul_le_mul_right _ hn)], .inr ⟨b, cap, cur, rfl, Nat.zero_le _, hW.sees b _ hb, hn, hc, hsz, rfl⟩⟩
    · rcases hg with hg | ⟨_, _, hg⟩
      · cases hg
      · injection hg with hg; injection hg with hg; injection hg with hg; subst hg; exact hb'
    · rcases hv with hv | ⟨_, _, hv⟩
      · cases hv
      · injection hv with hv; injection hv with hv; injection hv with hv; subst hv
        rw [hW.apart r b' _ hr hat] at hb; cases hb
  · have hle' : st.nx ≤ st.nx + 1 := Nat.le_succ _
    simp only [St.wf, Bool.and_eq_true]
    exact ⟨by simp [envLt, SV.lt, SC.lt, envLt_mono hle' (wf_e hw)], by simp [pbLt, PB.lt, pbLt_mono hle' (wf_p hw)]⟩
/-- The empty literal is taken as private. -/
theorem T_adopt0 {c : Code} (t : Nat) {b : Nat} {ty : TypeId} (sz : Nat) {e : Env} {p : List (Nat × PB)} {h : Hp} {nx : Nat} (ht : look t e = some (true, .c (.v (.slice (some ⟨b, 0, none⟩) 0 0)))) (hb : h b = none) (h0 : x.h0 b = none)
    (k : T x ⟨(t, true, .c (.s nx)) :: e, (nx, .row ty sz 0 []) :: p, h, nx + 1⟩ c Q) : T x ⟨e, p, h.ins b (.cells #[] ty (0, 0)), nx⟩ c Q := by
  refine T_adopt t sz h ht (cur := #[]) (e := ty) (by simp [Hp.ins]) hb (fun k hk => by simp [Hp.ins, hk]) h0 (by simp) (Nat.le_refl _) (Nat.zero_le _) ?_
  simpa using k

/-- st knows at least what st' says, and sees at least as much. -/
def St.leF (h0 : Hp) (st st' : St) : Prop := leE st.e st'.e ∧ leP st.p st'.p ∧ st'.h.le st.h ∧ h0.le st'.h ∧ st'.wf = true
theorem Conc.weakenF {W0 : Base} {h0 : Hp} {N : Nat} {st st' : St} {a : Act} {W : World} (h : st.leF h0 st') (hC : Conc W0 h0 N st a W) : Conc W0 h0 N st' a W := by
  obtain ⟨h1, h2, h3, h4, h5⟩ := h
  obtain ⟨ρ, hf, hW, hw⟩ := hC
  refine ⟨ρ, ⟨hf.1, hf.2.1, fun t c sv hl => hf.2.2 t c sv (leE_look h1 t _ hl)⟩, ?_, h5⟩
  have hW := hW.drop (leP_look h2)
  refine ⟨hW.below, fun b o hb => hW.sees b o (h3 b o hb), fun b o hb _ => h4 b o hb, fun b o hb hn => hW.new b o (h3 b o hb) hn, hW.own, hW.priv, fun r b g hr hat => ?_, hW.distinct⟩
  cases hh : st'.h g with
  | none => rfl
  | some o => have := hW.apart r b g hr hat; rw [h3 g o hh] at this; cases this
theorem T_weakenF {st' : St} {c : Code} (hle : st.leF x.h0 st') (h : T x st' c Q) : T x st c Q := by
  unfold T at *
  exact fun a W hC => h a W (hC.weakenF hle)
theorem T_loopF {ι : Type} {c : Code} (S : ι → St) (ok : ι → Prop) (m : ι → Nat) (i0 : ι) (h0 : ok i0) (hle : st.leF x.h0 (S i0))
    (hr : ∀ i, ok i → T x (S i) c (qthen (fun st' => ∃ j, ok j ∧ m j < m i ∧ st'.leF x.h0 (S j)) Q)) : T x st (.loop c) Q := by
  unfold T at *
  intro a W hC
  refine wp_loopI (fun i a' W' => ok i ∧ Conc x.W0 x.h0 x.N (S i) a' W') m ?_ i0 a W ⟨h0, hC.weakenF hle⟩
  rintro i a W ⟨hi, hC⟩
  refine Code.wp_mono ?_ (hr i hi a W hC)
  rintro e a' W' ⟨st', hq, hC'⟩
  cases e with
  | normal =>
    obtain ⟨j, hj, hlt, hle⟩ := hq
    exact ⟨j, hlt, hj, hC'.weakenF hle⟩
  | _ => exact ⟨st', hq, hC'⟩
theorem Hp.ins_le' {h h1 : Hp} {b : Nat} {o : Obj} (hl : h.le h1) (hb : h1 b = none) : h.le (h1.ins b o) := Hp.le_trans hl (Hp.ins_le hb)
end

attribute [irreducible] vstoreS
section
variable {x : Cx} {st : St} {o : Oper} {l ops : List Oper} {bs : List Nat} {K : St → Prop} {KV : Value → Hp → Prop} {KH : Hp → Prop}
@[go_sem] theorem ev_vopsX0 : vopsX x ops K [] l st = vops x.P ops l st K := by cases l <;> rfl
@[go_sem] theorem ev_vopsXt : vopsX x ops K (1 :: bs) (o :: l) st = vopX x st o fun st' => vopsX x ops K bs l st' := rfl
@[go_sem] theorem ev_vopsXf : vopsX x ops K (0 :: bs) (o :: l) st = vop x.P ops st o fun st' => vopsX x ops K bs l st' := rfl
@[go_sem] theorem ev_vopsXp : vopsX x ops K (2 :: bs) (o :: l) st = vop x.P ops st o fun st' => vpub st' o.dst fun st' => vopsX x ops K bs l st' := rfl
@[go_sem] theorem ev_vpub {d : Option Nat} : vpub st d K = onD d fun t => match look t st.e with
    | some (true, .c (.s r)) => (match look r st.p with
      | some (.row e sz n xs) => ∀ ad cap h', Pub st.h e sz n xs ad cap h' → K (st.sub r (.slice ad n cap) h')
      | _ => False)
    | _ => False := rfl
@[go_sem] theorem ev_vopXcall {d : Option Nat} {f : Operand} {args : Array Operand} {ats : Array TypeId} {t : TypeId} {p : String} {af : Array Edge} : vopX x st ⟨d, .call ⟨.value f, args, ats⟩, t, p, af, none⟩ K = getO st true f fun vf => getOs st true args.toList fun vs => vcallW x st vf vs fun v h' => K (St.mk (envPut st.e d true (.of v)) st.p h' st.nx) := by
  unfold vopX; simp
@[go_sem] theorem ev_vopXstore {a y : Operand} {tt t : TypeId} {p : String} {af : Array Edge} : vopX x st ⟨none, .store tt a y, t, p, af, none⟩ K = getO st true a fun va => getO st true y fun vy => vstoreS x st tt va vy fun h' => K (St.mk st.e st.p h' st.nx) := by
  unfold vopX; simp
@[go_sem] theorem ev_vopXmk {d : Option Nat} {fn : Fn} {fs cs : Array Operand} {t : TypeId} {p : String} {af : Array Edge} : vopX x st ⟨d, .makeFunc fn fs cs, t, p, af, none⟩ K = getOs st true fs.toList fun us => getOs st true cs.toList fun vs => (us.all (·.plain)) = true ∧ (vs.all (·.plain)) = true ∧ K (St.mk (envPut st.e d true (.c (.v (.func fn (us.map (·.pv)).toArray (vs.map (·.pv)).toArray)))) st.p st.h st.nx) := by
  unfold vopX; simp
@[go_sem] theorem ev_vopXbuild {d : Option Nat} {tt t : TypeId} {n : Nat} {ps : List (Nat × Operand)} {p : String} {af : Array Edge} : vopX x st ⟨d, .buildSlice tt n ps.toArray, t, p, af, none⟩ K = getOs st true (ps.map (·.2)) fun vs => elemOn x.P tt fun e => 0 < szT x.P e ∧ zeroOn x.P e fun z => z.length = szT x.P e ∧ n * szT x.P e ≤ 16777216 ∧ ps.length = n ∧ partsS (szT x.P e) 0 (ps.map (·.1)) vs ∧
      ∀ b, st.h b = none → K (St.mk (envPut st.e d true (.c (.v (.slice (some ⟨b, 0, none⟩) n n)))) st.p (st.h.ins b (.cells (vs.flatMap fun x => x.cells.map (·.val)).toArray e (0, 0))) st.nx) := by
  unfold vopX; simp [vbuildSeen]
@[go_sem] theorem ev_vcallW {f : FuncId} {fs cs : Array Value} {vs : List SV} : vcallW x st (.c (.v (.func (.func f) fs cs))) vs KV = ((vs.all (·.plain)) = true ∧ vfnW x st f (fs.toList ++ (vs.map (·.pv) ++ cs.toList)) KV) := rfl
def spl (o : Nat) (new cs : List Value) : List Value := spliceC o new cs
theorem vstoreS_one {t : TypeId} {b off : Nat} {u : Value} {cur : Array Value} {e : TypeId} (ht : hasT x.P t = true) (hs : szT x.P t = 1) (hu : SV.cells (.c (.v u)) = [.v u]) (h1 : u.oneCell' = true) (hb : st.h b = some (.cells cur e (0, 0))) (hown : x.h0 b = none ∨ x.W0.own b) (hle : off + 1 ≤ cur.size)
    (hk : KH (st.h.ins b (.cells (spl off [u] cur.toList).toArray e (0, 0)))) : vstoreS x st t (.c (.v (.pointer (some ⟨b, off, none⟩)))) (.c (.v u)) KH := by
  unfold vstoreS
  refine ⟨ht, rfl, by simp [hu, SC.val, h1], by simp [hu, hs], b, off, cur, e, rfl, hb, hown, by omega, ?_⟩
  unfold spl at hk
  simpa [hu, SC.val] using hk
theorem Hp.ins_same {h : Hp} {b : Nat} {o : Obj} : h.ins b o b = some o := by simp [Hp.ins]
theorem Hp.ins_ins {h : Hp} {b : Nat} {o o' : Obj} : (h.ins b o).ins b o' = h.ins b o' := by
  funext i; simp only [Hp.ins]; split <;> rfl
theorem Hp.ins_ne {h : Hp} {b i : Nat} {o : Obj} (hi : i ≠ b) : h.ins b o i = h i := by simp [Hp.ins, hi]
end
end Go.SL
