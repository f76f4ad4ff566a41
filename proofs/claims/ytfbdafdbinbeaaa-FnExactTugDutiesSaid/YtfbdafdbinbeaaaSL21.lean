/- Plain theorems about the model: a symbolic state, its evaluation and its soundness. No condition; nothing of the program is named. -/
import Derived.Test.YtfbdafdbinbeaaaSLT
import Derived.Laws.BytesString
set_option linter.unusedVariables false
set_option linter.unusedSimpArgs false
namespace Go.SL
open Go Go.RowKit

/-! ### private boxes become seen -/
theorem plain_map {cs : List SC} (h : cs.all plainC = true) (ρ : Rho) : cs.map (·.conc ρ) = cs.map (·.val) := by
  apply List.map_congr_left
  intro c hc
  have := List.all_eq_true.1 h c hc
  cases c <;> first | rfl | cases this
theorem Conc.pubB {W0 : Base} {h0 : Hp} {N : Nat} {st : St} {a : Act} {W : World} {r : Nat} {ty : TypeId} {cs : List SC} (hr : look r st.p = some (.box ty cs)) (hpl : cs.all plainC = true) (hC : Conc W0 h0 N st a W) :
    ∃ g, st.h g = none ∧ W0.own g ∧ Conc W0 h0 N (st.sub r (.pointer (some ⟨g, 0, none⟩)) (st.h.ins g (.cells (cs.map (·.val)).toArray ty (0, 0)))) a W := by
  obtain ⟨ρ, hf, hW, hw⟩ := hC
  obtain ⟨g, hv, _, hg⟩ := hW.priv r _ hr
  rw [plain_map hpl] at hg
  have hsub : ∀ {v : Value} {k b'}, look k (subP r v (dropP r st.p)) = some b' → ∃ b, look k st.p = some b ∧ k ≠ r ∧ b' = b.sub r v := by
    intro v k b' hk
    obtain ⟨b, h1, h2⟩ := look_subP hk
    exact ⟨b, (look_dropP h1).1, (look_dropP h1).2, h2⟩
  have hatr : PB.at ρ r g := .inl hv
  have hgn := hW.apart r _ g hr hatr
  refine ⟨g, hgn, hW.own r _ _ hr hatr, ρ, ⟨hf.1, hf.2.1, fun t c sv hl => ?_⟩, ?_, ?_⟩
  · obtain ⟨sv0, h1, rfl⟩ := look_subE hl
    rw [SV.sub_conc hv]
    exact hf.2.2 t c sv0 h1
  · refine ⟨hW.below, fun b o hb' => ?_, fun b o h1 h2 => Hp.ins_le hgn b o (hW.ext b o h1 h2), fun b o hb' h0b => ?_, fun k b' g' hk hat => ?_, fun k b' hk => ?_, fun k b' g' hk hat => ?_, fun k b k' b' g hk hk' h1 h2 => ?_⟩
    · simp only [St.sub, Hp.ins] at hb'
      split at hb'
      · rename_i e; subst e; simp only [Option.some.injEq] at hb'; rw [← hb']; exact hg
      · exact hW.sees b o hb'
    · simp only [St.sub, Hp.ins] at hb'
      split at hb'
      · rename_i e; subst e; exact hW.own r _ _ hr hatr
      · exact hW.new b o hb' h0b
    · obtain ⟨b, h1, _, rfl⟩ := hsub hk
      exact hW.own k b g' h1 hat
    · obtain ⟨b, h1, _, rfl⟩ := hsub hk
      exact PB.ok_sub hv (hW.priv k b h1)
    · obtain ⟨b, h1, hne, rfl⟩ := hsub hk
      simp only [St.sub, Hp.ins]
      split
      · rename_i e; subst e
        exact (hne (hW.distinct k b r _ g' h1 hr hat hatr)).elim
      · exact hW.apart k b g' h1 hat
    · obtain ⟨b, h3, _, rfl⟩ := hsub hk
      obtain ⟨b2, h4, _, rfl⟩ := hsub hk'
      exact hW.distinct k b k' b2 g h3 h4 h1 h2
  · simp only [St.wf, St.sub, Bool.and_eq_true]
    exact ⟨envLt_sub (wf_e hw), pbLt_sub (pbLt_dropP (wf_p hw))⟩
theorem T_pubB {x : Cx} {st : St} {c : Code} {Q : Exit → St → Prop} (r : Nat) {ty : TypeId} {cs : List SC} (hr : look r st.p = some (.box ty cs)) (hpl : cs.all plainC = true)
    (h : ∀ g, st.h g = none → x.W0.own g → T x (st.sub r (.pointer (some ⟨g, 0, none⟩)) (st.h.ins g (.cells (cs.map (·.val)).toArray ty (0, 0)))) c Q) : T x st c Q := by
  unfold T at *
  intro a W hC
  obtain ⟨g, h1, h2, hC'⟩ := hC.pubB hr hpl
  exact h g h1 h2 a W hC'
@[go_sem] theorem ev_blkp {b o : Nat} {s} : blk (.pointer (some ⟨b, o, s⟩)) = b := rfl
theorem lds_box {h : Hp} {b : Nat} {xs : List Value} {ty : TypeId} {o n : Nat} {ys : List Value} (hb : h b = some (.cells xs.toArray ty (0, 0))) (hl : (xs.drop o).take n = ys) (hn : o + n ≤ xs.length) : h.lds (some ⟨b, o, none⟩) n = some ys := by
  subst hl
  refine cellsAt_mk (by simp; omega) fun j v hj => ?_
  have hj' : xs[o + j]? = some v := by
    rw [List.getElem?_take] at hj
    split at hj
    · simpa [List.getElem?_drop] using hj
    · cases hj
  rw [add_mk]
  simp only [Hp.cell, hb, Nat.zero_add, Option.isSome_none, Bool.false_eq_true, if_false]
  simpa using hj'

/-! ### a seen slice is taken as private, wherever its block may be written -/
def Hp.del (h : Hp) (b : Nat) : Hp := fun i => if i = b then none else h i
theorem Hp.del_ne {h : Hp} {b i : Nat} (hi : i ≠ b) : h.del b i = h i := by simp [Hp.del, hi]
theorem Hp.del_same {h : Hp} {b : Nat} : h.del b b = none := by simp [Hp.del]
def vadopt (x : Cx) (st : St) (t : Nat) (K : St → Prop) : Prop :=
  ∃ v, look t st.e = some (true, .c (.v v)) ∧ ((v = .slice none 0 0 ∧ ∃ e sz, K ⟨(t, true, .c (.s st.nx)) :: st.e, (st.nx, .row e sz 0 []) :: st.p, st.h, st.nx + 1⟩) ∨
    ∃ b n cap cur e sz, v = .slice (some ⟨b, 0, none⟩) n cap ∧ st.h b = some (.cells cur e (0, 0)) ∧ (x.h0 b = none ∨ x.W0.own b) ∧ cur.size = cap * sz ∧ n ≤ cap ∧ cap ≤ maxLen ∧
      K ⟨(t, true, .c (.s st.nx)) :: st.e, (st.nx, .row e sz n (cur.toList.take (n * sz))) :: st.p, st.h.del b, st.nx + 1⟩)
theorem Conc.adopt {x : Cx} {st : St} {a : Act} {W : World} {t : Nat} {v : Value} {e : TypeId} {sz n : Nat} {xs : List Value} {h' : Hp} (ht : look t st.e = some (true, .c (.v v))) (hC : Conc x.W0 x.h0 x.N st a W)
    (hrow : W.ownsRow 0 e sz v n xs) (hle : ∀ k o, h' k = some o → st.h k = some o) (hdel : ∀ k, st.h k ≠ none → h' k = none → x.W0.own k)
    (hat : ∀ g, (v = .pointer (some ⟨g, 0, none⟩) ∨ ∃ n c, v = .slice (some ⟨g, 0, none⟩) n c) → x.W0.own g ∧ h' g = none ∧ st.h g ≠ none) :
    Conc x.W0 x.h0 x.N ⟨(t, true, .c (.s st.nx)) :: st.e, (st.nx, .row e sz n xs) :: st.p, h', st.nx + 1⟩ a W := by
  obtain ⟨ρ, hf, hW, hw⟩ := hC
  refine ⟨upd ρ st.nx v, ?_, ?_, ?_⟩
  · have hf' := hf.congr (wf_e hw) (upd_lt ρ st.nx v)
    refine ⟨hf'.1, hf'.2.1, fun t' c sv hl => ?_⟩
    simp only [look] at hl
    split at hl
    · rename_i e; subst e
      simp only [Option.some.injEq, Prod.mk.injEq] at hl
      obtain ⟨rfl, rfl⟩ := hl
      rw [if_pos rfl, conc_c, conc_s, upd_same]
      have := hf.2.2 _ _ _ ht
      simpa using this
    · exact hf'.2.2 t' c sv hl
  · have base : WOk x.W0 x.h0 ρ st.p h' W := by
      refine ⟨hW.below, fun k o hk => hW.sees k o (hle k o hk), fun k o h1 h2 => ?_, fun k o h1 h2 => hW.new k o (hle k o h1) h2, hW.own, hW.priv, fun r b' g hr hat' => ?_, hW.distinct⟩
      · have h3 := hW.ext k o h1 h2
        cases hh : h' k with
        | none => exact (h2 (hdel k (by rw [h3]; simp) hh)).elim
        | some o' => rw [hle k o' hh] at h3; exact h3
      · have := hW.apart r b' g hr hat'
        cases hh : h' g with
        | none => rfl
        | some o => rw [hle g o hh] at this; cases this
    refine base.add (wf_p hw) (fun _ _ x => x) base.below base.sees (fun g hg => (hat g hg).1) (fun r b' hr => base.priv r b' hr) ?_ (fun g hg => (hat g hg).2.1) (fun r b' g hr hat' hv => ?_)
    · show W.ownsRow 0 e sz (upd ρ st.nx _ st.nx) n _
      rw [upd_same]
      exact hrow
    · exact (hat g hv).2.2 (hW.apart r b' g hr hat')
  · have hle' : st.nx ≤ st.nx + 1 := Nat.le_succ _
    simp only [St.wf, Bool.and_eq_true]
    exact ⟨by simp [envLt, SV.lt, SC.lt, envLt_mono hle' (wf_e hw)], by simp [pbLt, PB.lt, pbLt_mono hle' (wf_p hw)]⟩
theorem vadopt_sound {x : Cx} {st : St} {t : Nat} {K : St → Prop} {a : Act} {W : World} (h : vadopt x st t K) (hC : Conc x.W0 x.h0 x.N st a W) : ∃ st', K st' ∧ Conc x.W0 x.h0 x.N st' a W := by
  obtain ⟨v, ht, ⟨rfl, e, sz, hk⟩ | ⟨b, n, cap, cur, e, sz, rfl, hb, hown, hsz, hn, hc, hk⟩⟩ := h
  · refine ⟨_, hk, hC.adopt ht ⟨by simp, .inl ⟨rfl, rfl⟩⟩ (fun _ _ h => h) (fun k h1 h2 => (h1 h2).elim) (fun g hg => ?_)⟩
    rcases hg with hg | ⟨_, _, hg⟩ <;> cases hg
  · have hC2 := hC
    obtain ⟨ρ, hf, hW, hw⟩ := hC2
    have ho : x.W0.own b := Conc.own_new hW (by rw [hb]; simp) hown
    refine ⟨_, hk, hC.adopt ht ⟨by rw [List.length_take, Array.length_toList, hsz, Nat.min_eq_left (Nat.mul_le_mul_right _ hn)], .inr ⟨b, cap, cur, rfl, Nat.zero_le _, hW.sees b _ hb, hn, hc, hsz, rfl⟩⟩ (fun k o hk => ?_) (fun k h1 h2 => ?_) (fun g hg => ?_)⟩
    · simp only [Hp.del] at hk; split at hk
      · cases hk
      · exact hk
    · simp only [Hp.del] at h2; split at h2
      · rename_i e; subst e; exact ho
      · exact (h1 h2).elim
    · rcases hg with hg | ⟨_, _, hg⟩
      · cases hg
      · injection hg with hg; injection hg with hg; injection hg with hg; subst hg
        exact ⟨ho, Hp.del_same, by rw [hb]; simp⟩

/-! ### operations with marks -/
def adoptArg (o : Oper) : Option Nat := match o.op with
  | .call ⟨.builtin .append, as, _⟩ => (match as.toList with | .tmp t :: _ => some t | _ => none)
  | _ => none
def bstr (ns : List Int) : ByteArray := ns.foldl (fun r n => r.push (UInt8.ofNat n.toNat)) ByteArray.empty
def vbytesR (x : Cx) (st : St) (s d : TypeId) (vy : SV) (K : Value → Prop) : Prop :=
  ∃ r e n ns e', vy = .c (.s r) ∧ look r st.p = some (.row e 1 n (ns.map (Value.int .u8))) ∧ x.P.underlying s = some (.slice e') ∧ x.P.underlying e' = some (.int .u8) ∧ x.P.underlying d = some .string ∧ K (.string (bstr ns))
/-- The bytes of a private row become a string. -/
def vbytes (x : Cx) (st : St) (o : Oper) (K : St → Prop) : Prop :=
  o.guard = none ∧ match o.op with
  | .convert s d y => getO st true y fun vy => vbytesR x st s d vy fun v => K (St.mk (envPut st.e o.dst true (.c (.v v))) st.p st.h st.nx)
  | _ => False
theorem vbytes_sound {x : Cx} {st : St} {o : Oper} {K : St → Prop} {QQ : Exit → Act → World → Prop} {a : Act} {W : World} (hd : ∀ d', o.dst = some d' → d' < x.N) (h : vbytes x st o K) (hC : Conc x.W0 x.h0 x.N st a W) :
    (∀ tm, Region.wanted o tm = true) ∧ o.wp x.P a W (fun a' W' => ∃ st', K st' ∧ Conc x.W0 x.h0 x.N st' a' W') QQ := by
  obtain ⟨ρ, hf, hW, hw⟩ := hC
  obtain ⟨hg, h⟩ := h
  refine ⟨fun tm => by simp [Region.wanted, hg], ?_⟩
  split at h
  · rename_i s d y ho
    obtain ⟨vy, h, _, hvy⟩ := getO_sound (N := x.N) hw h
    obtain ⟨r, e, n, ns, e', rfl, hr, hs, he, hdd, hk⟩ := h
    replace hvy := hvy rfl ρ a hf
    have hrow : W.ownsRow 0 e 1 (ρ r) n (ns.map (Value.int .u8)) := hW.priv r _ hr
    have hrun : (execOp a.eval o).run x.P W = .ok (.value (.string (bstr ns))) W := by
      simp only [execOp, ho, hvy, conc_c, conc_s]
      rcases hrow.2 with ⟨h1, h2⟩ | ⟨g, cap, cur, h1, _, hb, hn, _, hsz, htk⟩
      · have h0 : ns = [] := by
          have := hrow.1
          rw [h2, List.length_map] at this
          exact List.length_eq_zero_iff.1 (by omega)
        subst h0
        rw [h1]
        simp only [Sem.run_bind, run_convert_bytes_string W s d e' none _ _ hs he hdd]
        simp [Conv.bytesToString, Sem.run_pure, bstr]
      · rw [h1]
        have hl : (loadCells ⟨g, 0, none⟩ n).run x.P W = .ok (ns.map (Value.int .u8)).toArray W := by
          have hlen := hrow.1
          rw [Nat.mul_one] at hlen htk
          have := run_loadCells_list (P := x.P) W ⟨g, 0, none⟩ (ns.map (Value.int .u8)) fun j v hj => by
            rw [← htk, List.getElem?_take] at hj
            split at hj
            · rw [add_mk]
              simp only [World.cell?, hb, Nat.zero_add, Option.isSome_none, Bool.false_eq_true, if_false]
              simpa using hj
            · cases hj
          rw [hlen] at this
          exact this
        simp only [Sem.run_bind, run_convert_bytes_string W s d e' _ _ _ hs he hdd, run_bytesToString W _ n cap ns hl, Result.andThen_ok, Sem.run_pure]
        rfl
    unfold Oper.wp
    rw [hrun]
    exact ⟨_, hk, Conc.put_ (c := true) hf hW (wf_p hw) (wf_e hw) hd rfl (by simp)⟩
  · exact h.elim
/-- 0 as it comes, 1 writes into seen memory, 2 its row is seen from there on, 3 its first argument is taken as private first, and its row is seen behind it, 4 the bytes of a private row become a string. -/
def vopM (x : Cx) (ops : List Oper) (st : St) (o : Oper) (K : St → Prop) : Nat → Prop
  | 0 => vop x.P ops st o K
  | 1 => vopX x st o K
  | 2 => vop x.P ops st o fun st' => vpub st' o.dst K
  | 4 => vbytes x st o K
  | _ => onD (adoptArg o) fun t => vadopt x st t fun st1 => vop x.P ops st1 o fun st' => vpub st' o.dst K
def vopsM (x : Cx) (ops : List Oper) (K : St → Prop) : List Nat → List Oper → St → Prop
  | [], l, st => vops x.P ops l st K
  | m :: ms, o :: l, st => vopM x ops st o (fun st' => vopsM x ops K ms l st') m
  | _ :: _, [], _ => False
section
variable {x : Cx} {st : St} {Q : Exit → St → Prop}
theorem vopM_sound {ops : List Oper} {o : Oper} {m : Nat} {K : St → Prop} {QQ : Exit → Act → World → Prop} {a : Act} {W : World} (hd : ∀ d', o.dst = some d' → d' < x.N) (h : vopM x ops st o K m) (hC : Conc x.W0 x.h0 x.N st a W) :
    (Region.wanted o (yielded ops.toArray a.tmps) = true ∧ o.wp x.P a W (fun a' W' => ∃ st', K st' ∧ Conc x.W0 x.h0 x.N st' a' W') QQ) ∨ (Region.wanted o (yielded ops.toArray a.tmps) = false ∧ ∃ st', K st' ∧ Conc x.W0 x.h0 x.N st' (a.put o.dst undef) W) := by
  have gen : ∀ {K' : St → Prop} {st : St}, Conc x.W0 x.h0 x.N st a W → vop x.P ops st o K' → (∀ st' a' W', K' st' → Conc x.W0 x.h0 x.N st' a' W' → ∃ st'', K st'' ∧ Conc x.W0 x.h0 x.N st'' a' W') →
      (Region.wanted o (yielded ops.toArray a.tmps) = true ∧ o.wp x.P a W (fun a' W' => ∃ st', K st' ∧ Conc x.W0 x.h0 x.N st' a' W') QQ) ∨ (Region.wanted o (yielded ops.toArray a.tmps) = false ∧ ∃ st', K st' ∧ Conc x.W0 x.h0 x.N st' (a.put o.dst undef) W) := by
    intro K' st hC h hn
    rcases vop_sound (Q := QQ) hd h hC with ⟨hw, hwp⟩ | ⟨hw, st', hk, hC'⟩
    · refine .inl ⟨hw, Oper.wp_mono ?_ hwp⟩
      rintro a' W' ⟨st', hk, hC'⟩
      exact hn st' a' W' hk hC'
    · exact .inr ⟨hw, hn st' _ _ hk hC'⟩
  match m, h with
  | 0, h => exact gen hC h fun st' a' W' hk hC' => ⟨st', hk, hC'⟩
  | 1, h =>
    obtain ⟨hw, hwp⟩ := vopX_sound (QQ := QQ) hd h hC
    exact .inl ⟨hw _, hwp⟩
  | 2, h => exact gen hC h fun st' a' W' hk hC' => vpub_sound hk hC'
  | 4, h =>
    obtain ⟨hw, hwp⟩ := vbytes_sound (QQ := QQ) hd h hC
    exact .inl ⟨hw _, hwp⟩
  | 3, h | m + 5, h =>
    have h : onD (adoptArg o) fun t => vadopt x st t fun st1 => vop x.P ops st1 o fun st' => vpub st' o.dst K := h
    unfold onD at h
    split at h
    · obtain ⟨st1, h, hC1⟩ := vadopt_sound h hC
      exact gen hC1 h fun st' a' W' hk hC' => vpub_sound hk hC'
    · exact h.elim
theorem vopsM_sound {ops : List Oper} {K : St → Prop} {QQ : Exit → Act → World → Prop} (hQ : ∀ st' a' W', K st' → Conc x.W0 x.h0 x.N st' a' W' → QQ .normal a' W') : ∀ {ms : List Nat} {l : List Oper} {st : St} {a : Act} {W : World}, dstOk x.N l = true → vopsM x ops K ms l st → Conc x.W0 x.h0 x.N st a W →
    wpList x.P ops.toArray QQ l a W
  | [], l, st, a, W, hd, h, hC => by
    have h : vops x.P ops l st K := by cases l <;> exact h
    exact vops_sound hd hQ h hC
  | m :: ms, [], st, a, W, hd, h, hC => h.elim
  | m :: ms, o :: l, st, a, W, hd, h, hC => by
    simp only [dstOk, Bool.and_eq_true] at hd
    have hd1 : ∀ d', o.dst = some d' → d' < x.N := by
      intro d' e
      have := hd.1
      rw [e] at this
      simpa using this
    have h : vopM x ops st o (fun st' => vopsM x ops K ms l st') m := h
    simp only [wpList]
    rcases vopM_sound (QQ := QQ) hd1 h hC with ⟨hw, hwp⟩ | ⟨hw, st', hk, hC'⟩
    · rw [if_pos hw]
      left
      refine Oper.wp_mono ?_ hwp
      rintro a' W' ⟨st', hk, hC'⟩
      exact vopsM_sound hQ hd.2 hk hC'
    · rw [if_neg (by simp [hw])]
      exact vopsM_sound hQ hd.2 hk hC'
theorem T_regionM {id : Nat} {ops : List Oper} (n : List Nat) (hd : dstOk x.N ops = true) (h : vopsM x ops (fun st' => Q .normal st') n ops st) : T x st (.region id ops.toArray false) Q := by
  unfold T
  intro a W hC
  exact wp_region_lit (vopsM_sound (fun st' a' W' hk hC' => ⟨st', hk, hC'⟩) hd h hC)
theorem T_seq_regionM {id : Nat} {ops : List Oper} {d : Code} (n : List Nat) (hd : dstOk x.N ops = true) (h : vopsM x ops (fun st' => T x st' d Q) n ops st) : T x st (.seq (.region id ops.toArray false) d) Q :=
  T_seq (T_regionM n hd h)
end
attribute [irreducible] vbytesR vadopt
theorem vbytesR_at {x : Cx} {st : St} {s d : TypeId} {r : Nat} {e : TypeId} {n : Nat} {ns : List Int} {xs : List Value} {e' : TypeId} {K : Value → Prop} (hr : look r st.p = some (.row e 1 n xs)) (hx : xs = ns.map (Value.int .u8))
    (h1 : x.P.underlying s = some (.slice e')) (h2 : x.P.underlying e' = some (.int .u8)) (h3 : x.P.underlying d = some .string) (hk : K (.string (bstr ns))) : vbytesR x st s d (.c (.s r)) K := by
  unfold vbytesR; subst hx; exact ⟨r, e, n, ns, e', rfl, hr, h1, h2, h3, hk⟩
theorem vadopt_nil {x : Cx} {st : St} {t : Nat} {K : St → Prop} (e : TypeId) (sz : Nat) (ht : look t st.e = some (true, .c (.v (.slice none 0 0)))) (hk : K ⟨(t, true, .c (.s st.nx)) :: st.e, (st.nx, .row e sz 0 []) :: st.p, st.h, st.nx + 1⟩) : vadopt x st t K := by
  unfold vadopt; exact ⟨_, ht, .inl ⟨rfl, e, sz, hk⟩⟩
theorem vadopt_some {x : Cx} {st : St} {t : Nat} {K : St → Prop} {b n cap : Nat} {cur : Array Value} {e : TypeId} (sz : Nat) (ht : look t st.e = some (true, .c (.v (.slice (some ⟨b, 0, none⟩) n cap)))) (hb : st.h b = some (.cells cur e (0, 0)))
    (hown : x.h0 b = none ∨ x.W0.own b) (hsz : cur.size = cap * sz) (hn : n ≤ cap) (hc : cap ≤ maxLen)
    (hk : K ⟨(t, true, .c (.s st.nx)) :: st.e, (st.nx, .row e sz n (cur.toList.take (n * sz))) :: st.p, st.h.del b, st.nx + 1⟩) : vadopt x st t K := by
  unfold vadopt; exact ⟨_, ht, .inr ⟨b, n, cap, cur, e, sz, rfl, hb, hown, hsz, hn, hc, hk⟩⟩
section
variable {x : Cx} {st : St} {o : Oper} {l ops : List Oper} {m : Nat} {ms : List Nat} {K : St → Prop}
@[go_sem] theorem ev_vopsM0 : vopsM x ops K [] l st = vops x.P ops l st K := by cases l <;> rfl
@[go_sem] theorem ev_vopsMS : vopsM x ops K (m :: ms) (o :: l) st = vopM x ops st o (fun st' => vopsM x ops K ms l st') m := rfl
@[go_sem] theorem ev_vopM0 : vopM x ops st o K 0 = vop x.P ops st o K := rfl
@[go_sem] theorem ev_vopM1 : vopM x ops st o K 1 = vopX x st o K := rfl
@[go_sem] theorem ev_vopM2 : vopM x ops st o K 2 = vop x.P ops st o fun st' => vpub st' o.dst K := rfl
@[go_sem] theorem ev_vopM3 : vopM x ops st o K 3 = onD (adoptArg o) fun t => vadopt x st t fun st1 => vop x.P ops st1 o fun st' => vpub st' o.dst K := rfl
@[go_sem] theorem ev_vopM4 : vopM x ops st o K 4 = vbytes x st o K := rfl
@[go_sem] theorem ev_adoptArg {d : Option Nat} {t : Tmp} {y : Operand} {ats : Array TypeId} {ty : TypeId} {p : String} {af : Array Edge} {gd : Option (Nat × Bool)} : adoptArg ⟨d, .call ⟨.builtin .append, #[.tmp t, y], ats⟩, ty, p, af, gd⟩ = some t := rfl
@[go_sem] theorem ev_vbytes {d : Option Nat} {s dd : TypeId} {y : Operand} {ty : TypeId} {p : String} {af : Array Edge} : vbytes x st ⟨d, .convert s dd y, ty, p, af, none⟩ K = getO st true y fun vy => vbytesR x st s dd vy fun v => K (St.mk (envPut st.e d true (.c (.v v))) st.p st.h st.nx) := by
  unfold vbytes; simp
@[congr] theorem vopsM_congr {st' : St} (h : st = st') : vopsM x ops K ms l st = vopsM x ops K ms l st' := by rw [h]
end
end Go.SL
