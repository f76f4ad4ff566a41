/- Plain theorems about the model: a symbolic state, its evaluation and its soundness. No condition; nothing of the program is named. -/
import Derived.Test.YtfbdafdbinbeaaaSL8
set_option linter.unusedVariables false
set_option linter.unusedSimpArgs false
namespace Go.SL
open Go Go.RowKit

section
variable {P : Program} {W0 : Base} {h0 : Hp} {N : Nat} {st : St} {g : Bool}

/-- What is shown of an operation that is carried out: it yields a value, and a state that is asked for fits behind it. -/
def Runs (P : Program) (W0 : Base) (h0 : Hp) (N : Nat) (o : Oper) (K : St → Prop) (_ρ : Rho) (a : Act) (W : World) : Prop :=
  ∃ v W', (execOp a.eval o).run P W = .ok (.value v) W' ∧ ∃ st', K st' ∧ Conc W0 h0 N st' (a.put o.dst v) W'

theorem SV.plain_cells {x : SV} (h : x.plain = true) (ρ : Rho) : x.cells.map (·.conc ρ) = x.cells.map (·.val) := by
  apply List.map_congr_left
  intro c hc
  cases x with
  | c x => cases x with
    | v x => cases x <;> simp [SV.cells] at hc <;> first | (subst hc; rfl) | (obtain ⟨y, _, rfl⟩ := hc; rfl)
    | _ => cases h
  | g cs =>
    simp only [SV.plain, List.all_eq_true] at h
    have := h c hc
    cases c <;> first | rfl | cases this

theorem box_ok {t : TypeId} {ρ : Rho} {W : World} {p : List (Nat × PB)} {h : Hp} {nx : Nat} {cs : List SC} {z : Array Value} (hW : WOk W0 h0 ρ p h W) (hp : pbLt nx p = true) (hl : ∀ c ∈ cs, c.lt nx = true) (hz : z = (cs.map (·.conc ρ)).toArray) :
    WOk W0 h0 (upd ρ nx (.pointer (some ⟨W.heap.size, 0, none⟩))) ((nx, .box t cs) :: p) h (W.alloc (.cells z t)) := by
  refine hW.new_ hp (below_alloc W _) (fun g hg => ?_) ⟨W.heap.size, upd_same _ _ _, Nat.zero_le _, ?_⟩
  · rcases hg with hg | ⟨n, c, hg⟩
    · simpa using hg.symm
    · cases hg
  · rw [heap_alloc_new, hz]
    have : cs.map (·.conc ρ) = cs.map (·.conc (upd ρ nx (.pointer (some ⟨W.heap.size, 0, none⟩)))) := List.map_congr_left fun c hc => SC.conc_congr (upd_lt _ _ _) (hl c hc)
    rw [this]

theorem box_conc {d : Option Nat} {t : TypeId} {ρ : Rho} {a : Act} {W : World} {cs : List SC} {z : Array Value} (hw : st.wf = true) (hd : ∀ d', d = some d' → d' < N) (hf : FOk N ρ st.e a) (hW : WOk W0 h0 ρ st.p st.h W)
    (hl : ∀ c ∈ cs, c.lt st.nx = true) (hz : z = (cs.map (·.conc ρ)).toArray) :
    Conc W0 h0 N (St.mk (envPut st.e d true (.c (.p st.nx 0))) ((st.nx, .box t cs) :: st.p) st.h (st.nx + 1)) (a.put d (.pointer (some ⟨W.heap.size, 0, none⟩))) (W.alloc (.cells z t)) := by
  have hW' := box_ok (t := t) hW (wf_p hw) hl hz
  have hf' := hf.congr (wf_e hw) (upd_lt ρ st.nx (.pointer (some ⟨W.heap.size, 0, none⟩)))
  have hle : st.nx ≤ st.nx + 1 := Nat.le_succ _
  have hcs : cs.all (·.lt (st.nx + 1)) = true := by
    simp only [List.all_eq_true]
    intro c hc
    have := hl c hc
    cases c <;> simp_all [SC.lt] <;> omega
  refine Conc.put_ (c := true) (sv := .c (.p st.nx 0)) (h := st.h) hf' hW' (by simp [pbLt, PB.lt, hcs, pbLt_mono hle (wf_p hw)]) (envLt_mono hle (wf_e hw)) hd (decide_eq_true (Nat.lt_succ_self _)) ?_
  simp [upd_same, blk]

theorem valloc_sound {o : Oper} {t : TypeId} {K : St → Prop} {ρ : Rho} {a : Act} {W : World} (ho : o.op = .alloc t) (hw : st.wf = true) (hd : ∀ d', o.dst = some d' → d' < N) (hf : FOk N ρ st.e a) (hW : WOk W0 h0 ρ st.p st.h W)
    (h : zeroOn P t fun z => K (St.mk (envPut st.e o.dst true (.c (.p st.nx 0))) ((st.nx, .box t (z.map .v)) :: st.p) st.h (st.nx + 1))) : Runs P W0 h0 N o K ρ a W := by
  obtain ⟨z, hz, h⟩ := zeroOn_spec h
  obtain ⟨v, hv, hrun⟩ := zeroT_spec hz
  refine ⟨.pointer (some ⟨W.heap.size, 0, none⟩), W.alloc (.cells v.cells t), ?_, _, h, box_conc hw hd hf hW (fun c hc => ?_) ?_⟩
  · simp only [execOp, ho]
    have : (Instr.alloc t true (.tuple #[])).run P W = .ok (.pointer (some ⟨W.heap.size, 0, none⟩)) (W.alloc (.cells v.cells t)) := by
      simp [Instr.alloc, Sem.run_bind, hrun, newVar, newRow]
    simp [Sem.run_bind, this]
  · obtain ⟨y, _, rfl⟩ := List.mem_map.1 hc; rfl
  · simp [List.map_map, Function.comp_def, ← hv]

theorem vbox_sound {o : Oper} {t : TypeId} {x : Operand} {K : St → Prop} {ρ : Rho} {a : Act} {W : World} (ho : o.op = .box t x) (hw : st.wf = true) (hd : ∀ d', o.dst = some d' → d' < N) (hf : FOk N ρ st.e a) (hW : WOk W0 h0 ρ st.p st.h W)
    (h : getO st true x fun v => (v.cells.all (·.okc st.p)) = true ∧ K (St.mk (envPut st.e o.dst true (.c (.p st.nx 0))) ((st.nx, .box t v.cells) :: st.p) st.h (st.nx + 1))) : Runs P W0 h0 N o K ρ a W := by
  obtain ⟨v, ⟨hk, h⟩, hl, hx⟩ := getO_sound (N := N) hw h
  replace hx := hx rfl ρ a hf
  refine ⟨.pointer (some ⟨W.heap.size, 0, none⟩), W.alloc (.cells (v.conc ρ).cells t), ?_, _, h, box_conc hw hd hf hW (fun c hc => SV.cells_lt hl c hc) (okc_cells hW hk)⟩
  simp only [execOp, ho, hx]
  have : (Instr.box t (v.conc ρ)).run P W = .ok (.pointer (some ⟨W.heap.size, 0, none⟩)) (W.alloc (.cells (v.conc ρ).cells t)) := by
    simp [Instr.box, Sem.run_bind, newVar, newRow]
  simp [Sem.run_bind, this]

/-- The row that a new or a moved slice makes. -/
theorem row_conc {d : Option Nat} {ρ : Rho} {a : Act} {W' : World} {e : TypeId} {sz n : Nat} {xs : List Value} {v : Value} {p : List (Nat × PB)} (hw : st.wf = true) (hd : ∀ d', d = some d' → d' < N) (hf : FOk N ρ st.e a)
    (hp : pbLt st.nx p = true) (hW' : WOk W0 h0 (upd ρ st.nx v) ((st.nx, .row e sz n xs) :: p) st.h W') :
    Conc W0 h0 N (St.mk (envPut st.e d true (.c (.s st.nx))) ((st.nx, .row e sz n xs) :: p) st.h (st.nx + 1)) (a.put d v) W' := by
  have hf' := hf.congr (wf_e hw) (upd_lt ρ st.nx v)
  have hle : st.nx ≤ st.nx + 1 := Nat.le_succ _
  refine Conc.put_ (c := true) (sv := .c (.s st.nx)) (h := st.h) hf' hW' (by simp [pbLt, PB.lt, pbLt_mono hle hp]) (envLt_mono hle (wf_e hw)) hd (decide_eq_true (Nat.lt_succ_self _)) ?_
  simp [upd_same]

theorem at_own {v : Value} {k : Nat} (h : atV v k) {g : Option Nat} (hv : v.ownBlock = g) : g = some k ∨ ∃ a, v = .pointer a := by
  rcases h with h | ⟨n, c, h⟩
  · exact .inr ⟨_, h⟩
  · subst h; left; rw [← hv]; rfl

theorem row_new {ρ : Rho} {W W' : World} {e : TypeId} {sz n : Nat} {xs : List Value} {v : Value} {p : List (Nat × PB)} {h : Hp} {nx : Nat} (hW : WOk W0 h0 ρ p h W) (hp : pbLt nx p = true)
    (hown : W'.ownsRow 0 e sz v n xs) (hg : W.grownBy W' none) (hv : v.ownBlock = some W.heap.size ∨ v.ownBlock = none) :
    WOk W0 h0 (upd ρ nx v) ((nx, .row e sz n xs) :: p) h W' := by
  refine hW.new_ hp ⟨hg.os, hg.tape, hg.output, hg.size, fun k hk => hg.block k hk (by simp)⟩ (fun k hk => ?_) ?_
  · have hs : ∀ a, v ≠ .pointer a := by
      rintro a rfl
      rcases hown.2 with ⟨h1, _⟩ | ⟨g', cap, cur, h1, _⟩ <;> cases h1
    rcases hv with hv | hv
    · rcases at_own hk hv with h1 | ⟨a, h1⟩
      · simpa using h1.symm
      · exact (hs a h1).elim
    · rcases at_own hk hv with h1 | ⟨a, h1⟩
      · cases h1
      · exact (hs a h1).elim
  · show W'.ownsRow 0 e sz (upd ρ nx v nx) n xs
    rw [upd_same]; exact hown

theorem vmake_sound {o : Oper} {t : TypeId} {l c : Operand} {K : St → Prop} {ρ : Rho} {a : Act} {W : World} (ho : o.op = .makeSlice t l c) (hw : st.wf = true) (hd : ∀ d', o.dst = some d' → d' < N) (hf : FOk N ρ st.e a) (hW : WOk W0 h0 ρ st.p st.h W)
    (h : vmake P st t l c fun e sz n xs => K (St.mk (envPut st.e o.dst true (.c (.s st.nx))) ((st.nx, .row e sz n xs) :: st.p) st.h (st.nx + 1))) : Runs P W0 h0 N o K ρ a W := by
  unfold vmake at h
  obtain ⟨e, hu, hT, h⟩ := elemOn_spec h
  obtain ⟨z, hz, h⟩ := zeroOn_spec h
  obtain ⟨hzl, h⟩ := h
  obtain ⟨i, zv, hi, hiz, hzc, hsz, hby⟩ := zeroT_info hz
  obtain ⟨vl, h, _, hl⟩ := getO_sound (N := N) hw h
  obtain ⟨vc, h, _, hc⟩ := getO_sound (N := N) hw h
  obtain ⟨⟨kl, hkl⟩, ⟨kc, hkc⟩, h0c, hcm, hb, h⟩ := h
  have el := hl rfl ρ a hf
  have ec := hc rfl ρ a hf
  rw [isI_conc hkl] at el
  rw [isI_conc hkc] at ec
  obtain ⟨n, hn⟩ := Int.eq_ofNat_of_zero_le h0c
  rw [hn, Int.toNat_natCast] at hb
  have hcm' : n ≤ maxLen := by rw [hn] at hcm; exact_mod_cast hcm
  split at h
  · rename_i h0
    obtain ⟨k, el0⟩ : ∃ k, a.eval l = .int k 0 := by
      unfold isZero at h0
      split at h0
      · exact ⟨_, rfl⟩
      · cases h0
    obtain ⟨w', hr, hown, hg⟩ := run_make_own (P := P) W 0 t e i zv (szT P e) hu hi hiz hsz k kc n (by rw [hby]; omega) hcm' (Nat.zero_le _)
    refine ⟨_, w', ?_, _, h, row_conc hw hd hf (wf_p hw) (row_new hW (wf_p hw) hown hg (.inl rfl))⟩
    simp only [execOp, ho, el0, ec, hn]
    simp [Sem.run_bind, hr]
  · obtain ⟨hlc, h⟩ := h
    obtain ⟨w', hr, hown, hg⟩ := run_make_full (P := P) W 0 t e i zv (szT P e) hu hi hiz hsz kl kc n (by rw [hby]; omega) hcm' (Nat.zero_le _)
    rw [hn, Int.toNat_natCast] at h
    rw [hzc] at hown
    refine ⟨_, w', ?_, _, h, row_conc hw hd hf (wf_p hw) (row_new hW (wf_p hw) hown hg (.inl rfl))⟩
    simp only [execOp, ho, el, ec, hlc, hn]
    simp [Sem.run_bind, hr]

theorem vstore_run {t : TypeId} {W : World} {b o : Nat} {vs : List Value} {v : Value} {cur : Array Value} {e : TypeId} (ht : hasT P t = true) (hv : v.cells = vs.toArray) (hl : vs.length = szT P t)
    (hg : W.heap[b]? = some (.cells cur e (0, 0))) (hle : o + vs.length ≤ cur.size) (h1 : ∀ u ∈ vs, u.oneCell' = true) :
    (Instr.storeAt t (.pointer (some ⟨b, o, none⟩)) v).run P W = .ok () (W.setRow b (spliceC o vs cur.toList).toArray) := by
  have hst := run_storeCells_at P b o e vs 0 cur W hg (by omega) h1
  simp only [Nat.add_zero, List.append_assoc] at hst
  simp [Instr.storeAt, Instr.sureAddr, storeVar, Sem.run_bind, run_sizeOf (P := P) ht, hv, hl, hst, spliceC]

theorem spliceC_map {α β : Type} (f : α → β) (o : Nat) (new cs : List α) : (spliceC o new cs).map f = spliceC o (new.map f) (cs.map f) := by
  simp [spliceC, List.map_take, List.map_drop]
theorem length_spliceC {α : Type} {o : Nat} {new cs : List α} (h : o + new.length ≤ cs.length) : (spliceC o new cs).length = cs.length := by
  simp [spliceC]; omega
theorem spliceC_take {α : Type} {o n : Nat} {new cs : List α} (h : o + new.length ≤ n) (hn : n ≤ cs.length) : (spliceC o new cs).take n = spliceC o new (cs.take n) := by
  have m1 : min o cs.length = o := by omega
  have m2 : min o (min n cs.length) = o := by omega
  apply List.ext_getElem?
  intro i
  simp only [spliceC, List.getElem?_take, List.getElem?_append, List.length_take, List.getElem?_drop, m1, m2]
  by_cases h1 : i < n
  · rw [if_pos h1]
    by_cases h2 : i < o
    · rw [if_pos h2, if_pos h2, if_pos h2, if_pos h2, if_pos h1]
    · rw [if_neg h2, if_neg h2]
      by_cases h3 : i - o < new.length
      · rw [if_pos h3, if_pos h3]
      · rw [if_neg h3, if_neg h3, if_pos (by omega)]
  · rw [if_neg h1, if_neg (by omega), if_neg (by omega), if_neg (by omega)]

theorem vstore_sound {o : Oper} {t : TypeId} {x y : Operand} {K : St → Prop} {ρ : Rho} {a : Act} {W : World} (ho : o.op = .store t x y) (hn : o.dst = none) (hw : st.wf = true) (hf : FOk N ρ st.e a) (hW : WOk W0 h0 ρ st.p st.h W)
    (h : getO st true x fun va => getO st true y fun vx => vstore P st.p t va vx fun p => K (St.mk st.e p st.h st.nx)) :
    ∃ W', (execOp a.eval o).run P W = .ok .skip W' ∧ ∃ st', K st' ∧ Conc W0 h0 N st' (a.put o.dst undef) W' := by
  obtain ⟨va, h, _, hx⟩ := getO_sound (N := N) hw h
  obtain ⟨vx, h, hlx, hy⟩ := getO_sound (N := N) hw h
  obtain ⟨ht, h⟩ := h
  replace hx := hx rfl ρ a hf
  replace hy := hy rfl ρ a hf
  rw [hn]
  cases va with
  | g cs => exact h.elim
  | c va => cases va with
  | v _ => exact h.elim
  | s _ => exact h.elim
  | p r off =>
    replace h : vstoreP P st.p t r off (look r st.p) vx fun p => K (St.mk st.e p st.h st.nx) := h
    unfold vstoreP at h
    split at h
    · rename_i ty cs hl
      obtain ⟨h1, h2, h3, h⟩ := h
      obtain ⟨b, hb1, hb2, hb3⟩ := hW.priv r _ hl
      have hone : ∀ u ∈ vx.cells.map (·.conc ρ), u.oneCell' = true := by
        intro u hu
        obtain ⟨c, hc, rfl⟩ := List.mem_map.1 hu
        exact okc_conc hW (List.all_eq_true.1 h3 c hc)
      have hr := vstore_run (P := P) (t := t) (o := off) (vs := vx.cells.map (·.conc ρ)) ht (okc_cells hW h3) (by simpa using h1) hb3 (by simp [h1]; omega) hone
      refine ⟨_, ?_, _, h, ρ, by simpa [Act.put] using hf, hW.set_ (b := .box ty (spliceC off vx.cells cs)) hl (.inl hb1) (spliceC off (vx.cells.map (·.conc ρ)) (cs.map (·.conc ρ))).toArray ⟨b, hb1, hb2, ?_⟩, ?_⟩
      · simp only [execOp, ho, hx, hy, conc_c, conc_p, hb1, blk]
        simp [Sem.run_bind, hr]
      · rw [setRow_heap W b _ _ _ _ hb3, spliceC_map]
      · simp only [St.wf, wf_e hw, Bool.true_and]
        refine pbLt_setP ?_ (wf_p hw)
        have hcs := (lookP_lt (wf_p hw) hl).2
        simp only [PB.lt, List.all_eq_true] at hcs ⊢
        intro c hc
        simp only [spliceC, List.mem_append] at hc
        rcases hc with hc | hc | hc
        · exact hcs c (List.mem_of_mem_take hc)
        · exact SV.cells_lt hlx c hc
        · exact hcs c (List.mem_of_mem_drop hc)
    · rename_i e sz n xs hl
      obtain ⟨h1, h2, h3, h⟩ := h
      have hb : W.ownsRow 0 e sz (ρ r) n xs := hW.priv r _ hl
      have hvals : vx.cells.map (·.conc ρ) = vx.cells.map (·.val) := by
        apply List.map_congr_left
        intro c hc
        have := List.all_eq_true.1 h3 c hc
        simp only [Bool.and_eq_true] at this
        cases c <;> first | rfl | (simp [plainC] at this)
      have hcell : (vx.conc ρ).cells = (vx.cells.map (·.val)).toArray := by
        rw [← hvals]
        refine okc_cells hW (List.all_eq_true.2 fun c hc => ?_)
        have := List.all_eq_true.1 h3 c hc
        simp only [Bool.and_eq_true] at this
        cases c <;> first | exact this.2 | (simp [plainC] at this)
      have hone : ∀ u ∈ vx.cells.map (·.val), u.oneCell' = true := by
        intro u hu
        obtain ⟨c, hc, rfl⟩ := List.mem_map.1 hu
        have := List.all_eq_true.1 h3 c hc
        simp only [Bool.and_eq_true] at this
        exact this.2
      rcases hb.2 with ⟨_, hn0⟩ | ⟨b, cap, cur, hv, hb2, hb3, hnc, hcm, hcs, htake⟩
      · have hx0 : xs.length = 0 := by rw [hb.1, hn0]; simp
        have hs0 : szT P t = 0 := by omega
        have hne : vx.cells = [] := List.eq_nil_of_length_eq_zero (by omega)
        have ho0 : off = 0 := by omega
        have hxs : xs = [] := List.eq_nil_of_length_eq_zero hx0
        have hrw : (setP r (.row e sz n (spliceC off (vx.cells.map (·.val)) xs)) st.p) = setP r (.row e sz n xs) st.p := by simp [spliceC, hne, hxs]
        rw [hrw] at h
        refine ⟨W, ?_, _, h, ρ, by simpa [Act.put] using hf, ?_, ?_⟩
        · simp only [execOp, ho, hx, hy, conc_c, conc_p]
          have hr : (Instr.storeAt t (.pointer (some ⟨blk (ρ r), off, none⟩)) (vx.conc ρ)).run P W = .ok () W := by
            simp [Instr.storeAt, Instr.sureAddr, storeVar, Sem.run_bind, run_sizeOf (P := P) ht, hcell, hne, hs0, storeCells]
          simp [Sem.run_bind, hr]
        · refine ⟨hW.below, hW.sees, hW.ext, hW.new, fun r' b' g' hr' => ?_, fun r' b' hr' => ?_, fun r' b' g' hr' => ?_, fun r1 b1 r2 b2 g' k1 k2 => ?_⟩
          · rw [look_setP hl] at hr'
            split at hr'
            · rename_i e; subst e; exact hW.own _ _ g' hl
            · exact hW.own r' b' g' hr'
          · rw [look_setP hl] at hr'
            split at hr'
            · rename_i e; subst e; simp only [Option.some.injEq] at hr'; subst hr'; exact hW.priv _ _ hl
            · exact hW.priv r' b' hr'
          · rw [look_setP hl] at hr'
            split at hr'
            · rename_i e; subst e; exact hW.apart _ _ g' hl
            · exact hW.apart r' b' g' hr'
          · have m1 : ∃ b, look r1 st.p = some b := by
              rw [look_setP hl] at k1
              split at k1
              · rename_i e; subst e; exact ⟨_, hl⟩
              · exact ⟨_, k1⟩
            have m2 : ∃ b, look r2 st.p = some b := by
              rw [look_setP hl] at k2
              split at k2
              · rename_i e; subst e; exact ⟨_, hl⟩
              · exact ⟨_, k2⟩
            obtain ⟨c1, m1⟩ := m1
            obtain ⟨c2, m2⟩ := m2
            exact hW.distinct r1 c1 r2 c2 g' m1 m2
        · simp only [St.wf, wf_e hw, Bool.true_and]
          exact pbLt_setP rfl (wf_p hw)
      · have hxl : xs.length ≤ cur.size := by rw [hb.1, hcs]; exact Nat.mul_le_mul_right _ hnc
        have hr := vstore_run (P := P) (t := t) (o := off) (vs := vx.cells.map (·.val)) ht hcell (by simpa using h1) hb3 (by simp [h1]; omega) hone
        refine ⟨_, ?_, _, h, ρ, by simpa [Act.put] using hf, hW.set_ (b := .row e sz n (spliceC off (vx.cells.map (·.val)) xs)) hl (.inr ⟨n, cap, hv⟩) (spliceC off (vx.cells.map (·.val)) cur.toList).toArray ?_, ?_⟩
        · simp only [execOp, ho, hx, hy, conc_c, conc_p, hv, blk]
          simp [Sem.run_bind, hr]
        · show (W.setRow b _).ownsRow 0 e sz (ρ r) n _
          refine ⟨by rw [length_spliceC (by simp [h1]; omega)]; exact hb.1, .inr ⟨b, cap, _, hv, hb2, setRow_heap W b _ _ _ _ hb3, hnc, hcm, ?_, ?_⟩⟩
          · simp only [List.size_toArray]
            rw [length_spliceC (by simp [h1]; omega)]
            simpa using hcs
          · simp only
            rw [spliceC_take (by simp [h1, ← hb.1]; omega) (by simp [← hb.1]; omega), htake]
        · simp only [St.wf, wf_e hw, Bool.true_and]
          exact pbLt_setP rfl (wf_p hw)
    · cases h
end
end Go.SL
