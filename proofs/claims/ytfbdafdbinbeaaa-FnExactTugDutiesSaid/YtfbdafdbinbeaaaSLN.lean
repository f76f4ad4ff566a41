/- Plain theorems about the model: a symbolic state, its evaluation and its soundness. No condition; nothing of the program is named. -/
import Derived.Test.YtfbdafdbinbeaaaSLM
set_option linter.unusedVariables false
set_option linter.unusedSimpArgs false
namespace Go.SL
open Go Go.RowKit

theorem fld {α : Type} [Enc α] {h : Hp} {s : Sl α} (H : s.Ok h) {i : Nat} (hi : i < s.l.length) (f : Nat) {v : Value} (hv : (Enc.enc s.l[i])[f]? = some v) : h.lds (Option.map (fun x => x.add f) (Option.map (fun x => x.add (i * Enc.size α)) s.a)) 1 = some [v] := by
  have h1 := H.at hi
  obtain ⟨a, ha⟩ := Option.isSome_iff_exists.1 (H.some hi)
  rw [ha] at h1 ⊢
  have h2 := (cellsAt_spec (show h.cellsAt (a.add (i * Enc.size α)) 0 _ = some _ from h1)).2 f v hv
  refine cellsAt_mk rfl fun j u hj => ?_
  cases j with
  | zero => simp only [List.getElem?_cons_zero, Option.some.injEq] at hj; subst hj; rw [Nat.zero_add] at h2; simpa [add_add'] using h2
  | succ j => simp at hj
theorem fld0 {α : Type} [Enc α] {h : Hp} {s : Sl α} (H : s.Ok h) {i : Nat} (hi : i < s.l.length) {v : Value} (hv : (Enc.enc s.l[i])[0]? = some v) : h.lds (Option.map (fun x => x) (Option.map (fun x => x.add (i * Enc.size α)) s.a)) 1 = some [v] := by
  have := fld H hi 0 hv
  have e : (fun x : Addr => x.add 0) = fun x => x := by funext x; simp [Addr.add]
  rwa [e] at this
theorem fldS {α : Type} [Enc α] {h : Hp} {s : Sl α} (H : s.Ok h) {i : Nat} (hi : i < s.l.length) (f : Nat) (hf : f ≠ 0) {v : Value} (hv : (Enc.enc s.l[i])[f]? = some v) : h.lds (Option.map (fun x => { block := x.block, off := x.off + f }) (Option.map (fun x => x.add (i * Enc.size α)) s.a)) 1 = some [v] := by
  have := fld H hi f hv
  have e : (fun x : Addr => x.add f) = fun x => { block := x.block, off := x.off + f } := by funext x; simp [Addr.add, hf]
  rwa [e] at this
theorem mkL_get {α : Type} [Mk α] : ∀ {l : List α} {k : Int} {i : Nat} (hi : i < l.length), (mkL l k)[i]'(by rw [mkL_length]; exact hi) = Mk.put l[i] (k + cntL (l.take i))
  | x :: l, k, 0, hi => by simp [mkL, cntL]
  | x :: l, k, i + 1, hi => by
    simp only [mkL, List.getElem_cons_succ, List.take_succ_cons, cntL_cons]
    rw [mkL_get (by simpa using hi)]
    congr 1
    omega
theorem held_at {α : Type} [Mk α] {l : List α} {k : Int} (hm : mkL l k = l) {i : Nat} (hi : i < l.length) : l[i] = Mk.put l[i] (k + cntL (l.take i)) := by
  rw [← mkL_get hi]; simp only [hm]
/-- What a marking keeps. -/
class MkOk (α : Type) [Enc α] [Foot α] [Mk α] : Prop where
  foot : ∀ (x : α) (k : Int), Foot.foot (Mk.put x k) = Foot.foot x
  cnt : ∀ (x : α) (k : Int), Mk.cnt (Mk.put x k) = Mk.cnt x
  idem : ∀ (x : α) (k : Int), Mk.put (Mk.put x k) k = Mk.put x k
section
variable {α : Type} [Enc α] [Foot α] [Mk α] [MkOk α]
theorem mkL_foot : ∀ {l : List α} {k : Int}, (mkL l k).flatMap Foot.foot = l.flatMap Foot.foot
  | [], _ => rfl
  | x :: l, k => by rw [mkL, List.flatMap_cons, List.flatMap_cons, MkOk.foot, mkL_foot]
theorem mkL_cnt : ∀ {l : List α} {k : Int}, cntL (mkL l k) = cntL l
  | [], _ => rfl
  | x :: l, k => by rw [mkL, cntL_cons, cntL_cons, MkOk.cnt, mkL_cnt]
theorem mkL_idem : ∀ {l : List α} {k : Int}, mkL (mkL l k) k = mkL l k
  | [], _ => rfl
  | x :: l, k => by rw [mkL, mkL, MkOk.idem, MkOk.cnt, mkL_idem]
end
instance : MkOk Int := ⟨fun _ _ => rfl, fun _ _ => rfl, fun _ _ => rfl⟩
instance {α : Type} [Enc α] [Foot α] [Mk α] [MkOk α] : MkOk (Sl α) := ⟨fun x k => by
    by_cases hl : x.l = []
    · rw [show Foot.foot x = [] from Sl.foot_nil hl]; exact Sl.foot_nil (by show mkL x.l k = []; rw [hl]; rfl)
    · have hl' : (Mk.put x k).l ≠ [] := fun e => hl (List.length_eq_zero_iff.1 (by rw [← mkL_length (k := k), show mkL x.l k = [] from e]; rfl))
      rw [show Foot.foot x = _ from Sl.foot_ne hl, show Foot.foot (Mk.put x k) = _ from Sl.foot_ne hl']
      show x.blkOf :: (mkL x.l k).flatMap Foot.foot = _
      rw [mkL_foot],
  fun x k => mkL_cnt, fun x k => by show (⟨x.a, x.cap, mkL (mkL x.l k) k⟩ : Sl α) = _; rw [mkL_idem]; rfl⟩
theorem flat_apart {α β : Type} {f : α → List β} : ∀ {l : List α}, (l.flatMap f).Nodup → ∀ {i j : Nat} (hi : i < l.length) (hj : j < l.length), i ≠ j → ∀ b, b ∈ f l[i] → b ∈ f l[j] → False
  | x :: l, hn, 0, 0, _, _, hne, _, _, _ => hne rfl
  | x :: l, hn, 0, j + 1, _, hj, _, b, h1, h2 => by
    rw [List.flatMap_cons, List.nodup_append] at hn
    exact hn.2.2 b h1 b (List.mem_flatMap.2 ⟨l[j]'(by simpa using hj), List.getElem_mem _, h2⟩) rfl
  | x :: l, hn, i + 1, 0, hi, _, _, b, h1, h2 => by
    rw [List.flatMap_cons, List.nodup_append] at hn
    exact hn.2.2 b h2 b (List.mem_flatMap.2 ⟨l[i]'(by simpa using hi), List.getElem_mem _, h1⟩) rfl
  | x :: l, hn, i + 1, j + 1, hi, hj, hne, b, h1, h2 => by
    rw [List.flatMap_cons, List.nodup_append] at hn
    exact flat_apart hn.2.1 (by simpa using hi) (by simpa using hj) (by omega) b h1 h2
theorem flat_nodup {α β : Type} {f : α → List β} {l : List α} (hn : (l.flatMap f).Nodup) {x : α} (hx : x ∈ l) : (f x).Nodup := by
  induction l with
  | nil => cases hx
  | cons y l ih =>
    rw [List.flatMap_cons, List.nodup_append] at hn
    rcases List.mem_cons.1 hx with rfl | hx
    · exact hn.1
    · exact ih hn.2.1 hx
theorem lds1_row {h : Hp} {g o : Nat} {e : TypeId} {xs : List Value} {v : Value} (hb : h g = some (.cells xs.toArray e (0, 0))) (hx : xs[o]? = some v) : h.lds (some ⟨g, o, none⟩) 1 = some [v] := by
  refine cellsAt_mk rfl fun j u hj => ?_
  cases j with
  | zero =>
    simp only [List.getElem?_cons_zero, Option.some.injEq] at hj; subst hj
    rw [add_mk]
    simp only [Hp.cell, hb, Option.isSome_none, Bool.false_eq_true, if_false, List.getElem?_toArray]
    simpa using hx
  | succ j => simp at hj
theorem row_get {α : Type} [Enc α] {l : List α} {spare : List Value} {i f : Nat} {v : Value} (hi : i < l.length) (hv : (Enc.enc l[i])[f]? = some v) : (rowL l spare)[i * Enc.size α + f]? = some v := by
  have hf : f < Enc.size α := by rw [← Enc.len l[i]]; exact (List.getElem?_eq_some_iff.1 hv).1
  have hp : 0 < Enc.size α := by omega
  have hfl : (l.flatMap Enc.enc)[i * Enc.size α + f]? = some v := by
    rw [flat_get Enc.len hp]
    have e1 : (i * Enc.size α + f) / Enc.size α = i := by rw [Nat.add_comm, Nat.add_mul_div_right _ _ hp, Nat.div_eq_of_lt hf, Nat.zero_add]
    have e2 : (i * Enc.size α + f) % Enc.size α = f := by rw [Nat.add_comm, Nat.add_mul_mod_self_right, Nat.mod_eq_of_lt hf]
    rw [e1, e2, List.getElem?_eq_getElem hi]
    exact hv
  rw [rowL, List.getElem?_append_left (List.getElem?_eq_some_iff.1 hfl).1]
  exact hfl
theorem spl_after {o j : Nat} {m xs : List Value} (hj : o + m.length ≤ j) (hl : o + m.length ≤ xs.length) : (spl o m xs)[j]? = xs[j]? := by
  have h1 : (xs.take o).length = o := by rw [List.length_take]; omega
  simp only [spl, spliceC]
  rw [List.getElem?_append_right (by omega), h1, List.getElem?_append_right (by omega), List.getElem?_drop]
  congr 1; omega
theorem spl_same {o : Nat} {m xs : List Value} {v : Value} (hx : xs[o + m.length]? = some v) : spl o (m ++ [v]) xs = spl o m xs := by
  have hl : o + m.length < xs.length := (List.getElem?_eq_some_iff.1 hx).1
  simp only [spl, spliceC]
  rw [List.length_append, List.length_singleton, List.append_assoc, List.drop_eq_getElem_cons (l := xs) (i := o + m.length) hl]
  have : xs[o + m.length] = v := (List.getElem?_eq_some_iff.1 hx).2
  rw [this]; rfl
theorem spl_nil {o : Nat} {xs : List Value} : spl o [] xs = xs := by simp [spl, spliceC]
theorem spl_row {α : Type} [Enc α] {l : List α} {spare : List Value} {i : Nat} {x : α} (hi : i < l.length) : spl (i * Enc.size α) (Enc.enc x) (rowL l spare) = rowL (l.set i x) spare := rowL_set hi
theorem mem_mkL {α : Type} [Mk α] {l : List α} {k : Int} {x : α} (hx : x ∈ mkL l k) : ∃ j, ∃ hj : j < l.length, x = Mk.put l[j] (k + cntL (l.take j)) := by
  obtain ⟨j, hj, rfl⟩ := List.getElem_of_mem hx
  have hj' : j < l.length := by rwa [mkL_length] at hj
  exact ⟨j, hj', mkL_get hj'⟩

theorem fs_DCall {h : Hp} {s : Sl DCall} (H : s.Ok h) {i : Nat} (hi : i < s.l.length) : h.lds (Option.map (fun x => x) (Option.map (fun x => x.add (i * 5)) s.a)) 1 = some [.int .i64 s.l[i].ship] ∧ h.lds (Option.map (fun x => { block := x.block, off := x.off + 1 }) (Option.map (fun x => x.add (i * 5)) s.a)) 1 = some [.int .i64 s.l[i].src] ∧ h.lds (Option.map (fun x => { block := x.block, off := x.off + 2 }) (Option.map (fun x => x.add (i * 5)) s.a)) 1 = some [.int .i64 s.l[i].dst] ∧ h.lds (Option.map (fun x => { block := x.block, off := x.off + 3 }) (Option.map (fun x => x.add (i * 5)) s.a)) 1 = some [.int .i64 s.l[i].ready] ∧ h.lds (Option.map (fun x => { block := x.block, off := x.off + 4 }) (Option.map (fun x => x.add (i * 5)) s.a)) 1 = some [.int .i64 s.l[i].due] := ⟨fld0 H hi rfl, fldS H hi 1 (by decide) rfl, fldS H hi 2 (by decide) rfl, fldS H hi 3 (by decide) rfl, fldS H hi 4 (by decide) rfl⟩
instance : MkOk DCall := ⟨fun _ _ => rfl, fun _ _ => rfl, fun _ _ => rfl⟩
theorem fs_DPassage {h : Hp} {s : Sl DPassage} (H : s.Ok h) {i : Nat} (hi : i < s.l.length) : h.lds (Option.map (fun x => x) (Option.map (fun x => x.add (i * 5)) s.a)) 1 = some [.int .i64 s.l[i].ship] ∧ h.lds (Option.map (fun x => { block := x.block, off := x.off + 1 }) (Option.map (fun x => x.add (i * 5)) s.a)) 1 = some [.int .i64 s.l[i].seg] ∧ h.lds (Option.map (fun x => { block := x.block, off := x.off + 2 }) (Option.map (fun x => x.add (i * 5)) s.a)) 1 = some [.bool s.l[i].toward] ∧ h.lds (Option.map (fun x => { block := x.block, off := x.off + 3 }) (Option.map (fun x => x.add (i * 5)) s.a)) 1 = some [.int .i64 s.l[i].start] ∧ h.lds (Option.map (fun x => { block := x.block, off := x.off + 4 }) (Option.map (fun x => x.add (i * 5)) s.a)) 1 = some [.int .i64 s.l[i].fin] := ⟨fld0 H hi rfl, fldS H hi 1 (by decide) rfl, fldS H hi 2 (by decide) rfl, fldS H hi 3 (by decide) rfl, fldS H hi 4 (by decide) rfl⟩
instance : MkOk DPassage := ⟨fun _ _ => rfl, fun _ _ => rfl, fun _ _ => rfl⟩
theorem fs_DOption {h : Hp} {s : Sl DOption} (H : s.Ok h) {i : Nat} (hi : i < s.l.length) : h.lds (Option.map (fun x => x) (Option.map (fun x => x.add (i * 4)) s.a)) 1 = some [.int .i64 s.l[i].start] ∧ h.lds (Option.map (fun x => { block := x.block, off := x.off + 1 }) (Option.map (fun x => x.add (i * 4)) s.a)) 1 = some [.int .i64 s.l[i].arr] ∧ h.lds (Option.map (fun x => { block := x.block, off := x.off + 2 }) (Option.map (fun x => x.add (i * 4)) s.a)) 1 = some [.int .i64 s.l[i].cost] ∧ h.lds (Option.map (fun x => { block := x.block, off := x.off + 3 }) (Option.map (fun x => x.add (i * 4)) s.a)) 1 = some [s.l[i].pas.val] := ⟨fld0 H hi rfl, fldS H hi 1 (by decide) rfl, fldS H hi 2 (by decide) rfl, fldS H hi 3 (by decide) rfl⟩
instance : MkOk DOption := ⟨fun x k => MkOk.foot x.pas _, fun x k => congrArg (3 + ·) (MkOk.cnt x.pas _), fun x k => by
  show DOption.mk _ _ _ _ = DOption.mk _ _ _ _
  congr 1
  exact MkOk.idem x.pas _⟩
theorem fs_DCrew {h : Hp} {s : Sl DCrew} (H : s.Ok h) {i : Nat} (hi : i < s.l.length) : h.lds (Option.map (fun x => x) (Option.map (fun x => x.add (i * 4)) s.a)) 1 = some [.int .i64 s.l[i].tugs] ∧ h.lds (Option.map (fun x => { block := x.block, off := x.off + 1 }) (Option.map (fun x => x.add (i * 4)) s.a)) 1 = some [.int .i64 s.l[i].pilots] ∧ h.lds (Option.map (fun x => { block := x.block, off := x.off + 2 }) (Option.map (fun x => x.add (i * 4)) s.a)) 1 = some [.int .i64 s.l[i].rest] ∧ h.lds (Option.map (fun x => { block := x.block, off := x.off + 3 }) (Option.map (fun x => x.add (i * 4)) s.a)) 1 = some [s.l[i].moves.val] := ⟨fld0 H hi rfl, fldS H hi 1 (by decide) rfl, fldS H hi 2 (by decide) rfl, fldS H hi 3 (by decide) rfl⟩
instance : MkOk DCrew := ⟨fun x k => MkOk.foot x.moves _, fun x k => congrArg (3 + ·) (MkOk.cnt x.moves _), fun x k => by
  show DCrew.mk _ _ _ _ = DCrew.mk _ _ _ _
  congr 1
  exact MkOk.idem x.moves _⟩
theorem fs_DPart {h : Hp} {s : Sl DPart} (H : s.Ok h) {i : Nat} (hi : i < s.l.length) : h.lds (Option.map (fun x => x) (Option.map (fun x => x.add (i * 3)) s.a)) 1 = some [.int .i64 s.l[i].amp] ∧ h.lds (Option.map (fun x => { block := x.block, off := x.off + 1 }) (Option.map (fun x => x.add (i * 3)) s.a)) 1 = some [.int .i64 s.l[i].period] ∧ h.lds (Option.map (fun x => { block := x.block, off := x.off + 2 }) (Option.map (fun x => x.add (i * 3)) s.a)) 1 = some [.int .i64 s.l[i].phase] := ⟨fld0 H hi rfl, fldS H hi 1 (by decide) rfl, fldS H hi 2 (by decide) rfl⟩
instance : MkOk DPart := ⟨fun _ _ => rfl, fun _ _ => rfl, fun _ _ => rfl⟩
theorem fs_DTide {h : Hp} {s : Sl DTide} (H : s.Ok h) {i : Nat} (hi : i < s.l.length) : h.lds (Option.map (fun x => x) (Option.map (fun x => x.add (i * 2)) s.a)) 1 = some [.int .i64 s.l[i].mean] ∧ h.lds (Option.map (fun x => { block := x.block, off := x.off + 1 }) (Option.map (fun x => x.add (i * 2)) s.a)) 1 = some [s.l[i].parts.val] := ⟨fld0 H hi rfl, fldS H hi 1 (by decide) rfl⟩
instance : MkOk DTide := ⟨fun x k => MkOk.foot x.parts _, fun x k => congrArg (1 + ·) (MkOk.cnt x.parts _), fun x k => by
  show DTide.mk _ _ = DTide.mk _ _
  congr 1
  exact MkOk.idem x.parts _⟩
theorem fs_DSurge {h : Hp} {s : Sl DSurge} (H : s.Ok h) {i : Nat} (hi : i < s.l.length) : h.lds (Option.map (fun x => x) (Option.map (fun x => x.add (i * 3)) s.a)) 1 = some [.int .i64 s.l[i].src] ∧ h.lds (Option.map (fun x => { block := x.block, off := x.off + 1 }) (Option.map (fun x => x.add (i * 3)) s.a)) 1 = some [.int .i64 s.l[i].low] ∧ h.lds (Option.map (fun x => { block := x.block, off := x.off + 2 }) (Option.map (fun x => x.add (i * 3)) s.a)) 1 = some [.int .i64 s.l[i].high] := ⟨fld0 H hi rfl, fldS H hi 1 (by decide) rfl, fldS H hi 2 (by decide) rfl⟩
instance : MkOk DSurge := ⟨fun _ _ => rfl, fun _ _ => rfl, fun _ _ => rfl⟩
theorem fs_DPoint {h : Hp} {s : Sl DPoint} (H : s.Ok h) {i : Nat} (hi : i < s.l.length) : h.lds (Option.map (fun x => x) (Option.map (fun x => x.add (i * 2)) s.a)) 1 = some [.string s.l[i].name] ∧ h.lds (Option.map (fun x => { block := x.block, off := x.off + 1 }) (Option.map (fun x => x.add (i * 2)) s.a)) 1 = some [.bool s.l[i].wait] := ⟨fld0 H hi rfl, fldS H hi 1 (by decide) rfl⟩
instance : MkOk DPoint := ⟨fun _ _ => rfl, fun _ _ => rfl, fun _ _ => rfl⟩
theorem fs_DSegment {h : Hp} {s : Sl DSegment} (H : s.Ok h) {i : Nat} (hi : i < s.l.length) : h.lds (Option.map (fun x => x) (Option.map (fun x => x.add (i * 5)) s.a)) 1 = some [.int .i64 s.l[i].a] ∧ h.lds (Option.map (fun x => { block := x.block, off := x.off + 1 }) (Option.map (fun x => x.add (i * 5)) s.a)) 1 = some [.int .i64 s.l[i].b] ∧ h.lds (Option.map (fun x => { block := x.block, off := x.off + 2 }) (Option.map (fun x => x.add (i * 5)) s.a)) 1 = some [.int .i64 s.l[i].depth] ∧ h.lds (Option.map (fun x => { block := x.block, off := x.off + 3 }) (Option.map (fun x => x.add (i * 5)) s.a)) 1 = some [.int .i64 s.l[i].minutes] ∧ h.lds (Option.map (fun x => { block := x.block, off := x.off + 4 }) (Option.map (fun x => x.add (i * 5)) s.a)) 1 = some [.bool s.l[i].meet] := ⟨fld0 H hi rfl, fldS H hi 1 (by decide) rfl, fldS H hi 2 (by decide) rfl, fldS H hi 3 (by decide) rfl, fldS H hi 4 (by decide) rfl⟩
instance : MkOk DSegment := ⟨fun _ _ => rfl, fun _ _ => rfl, fun _ _ => rfl⟩
theorem fs_DChart {h : Hp} {s : Sl DChart} (H : s.Ok h) {i : Nat} (hi : i < s.l.length) : h.lds (Option.map (fun x => x) (Option.map (fun x => x.add (i * 2)) s.a)) 1 = some [s.l[i].points.val] ∧ h.lds (Option.map (fun x => { block := x.block, off := x.off + 1 }) (Option.map (fun x => x.add (i * 2)) s.a)) 1 = some [s.l[i].segments.val] := ⟨fld0 H hi rfl, fldS H hi 1 (by decide) rfl⟩
theorem fs_DShip {h : Hp} {s : Sl DShip} (H : s.Ok h) {i : Nat} (hi : i < s.l.length) : h.lds (Option.map (fun x => x) (Option.map (fun x => x.add (i * 6)) s.a)) 1 = some [.string s.l[i].name] ∧ h.lds (Option.map (fun x => { block := x.block, off := x.off + 1 }) (Option.map (fun x => x.add (i * 6)) s.a)) 1 = some [.int .i64 s.l[i].length] ∧ h.lds (Option.map (fun x => { block := x.block, off := x.off + 2 }) (Option.map (fun x => x.add (i * 6)) s.a)) 1 = some [.int .i64 s.l[i].draught] ∧ h.lds (Option.map (fun x => { block := x.block, off := x.off + 3 }) (Option.map (fun x => x.add (i * 6)) s.a)) 1 = some [.int .i64 s.l[i].line] ∧ h.lds (Option.map (fun x => { block := x.block, off := x.off + 4 }) (Option.map (fun x => x.add (i * 6)) s.a)) 1 = some [.int .i64 s.l[i].tugs] ∧ h.lds (Option.map (fun x => { block := x.block, off := x.off + 5 }) (Option.map (fun x => x.add (i * 6)) s.a)) 1 = some [.bool s.l[i].slow] := ⟨fld0 H hi rfl, fldS H hi 1 (by decide) rfl, fldS H hi 2 (by decide) rfl, fldS H hi 3 (by decide) rfl, fldS H hi 4 (by decide) rfl, fldS H hi 5 (by decide) rfl⟩
instance : MkOk DShip := ⟨fun _ _ => rfl, fun _ _ => rfl, fun _ _ => rfl⟩
theorem fs_DRegime {h : Hp} {s : Sl DRegime} (H : s.Ok h) {i : Nat} (hi : i < s.l.length) : h.lds (Option.map (fun x => x) (Option.map (fun x => x.add (i * 2)) s.a)) 1 = some [.int .i64 s.l[i].gap] ∧ h.lds (Option.map (fun x => { block := x.block, off := x.off + 1 }) (Option.map (fun x => x.add (i * 2)) s.a)) 1 = some [.bool s.l[i].noMeet] := ⟨fld0 H hi rfl, fldS H hi 1 (by decide) rfl⟩
instance : MkOk DRegime := ⟨fun _ _ => rfl, fun _ _ => rfl, fun _ _ => rfl⟩
theorem fs_DBranch {h : Hp} {s : Sl DBranch} (H : s.Ok h) {i : Nat} (hi : i < s.l.length) : h.lds (Option.map (fun x => x) (Option.map (fun x => x.add (i * 3)) s.a)) 1 = some [.int .i64 s.l[i].low] ∧ h.lds (Option.map (fun x => { block := x.block, off := x.off + 1 }) (Option.map (fun x => x.add (i * 3)) s.a)) 1 = some [.int .i64 s.l[i].high] ∧ h.lds (Option.map (fun x => { block := x.block, off := x.off + 2 }) (Option.map (fun x => x.add (i * 3)) s.a)) 1 = some [s.l[i].plan.val] := ⟨fld0 H hi rfl, fldS H hi 1 (by decide) rfl, fldS H hi 2 (by decide) rfl⟩
instance : MkOk DBranch := ⟨fun x k => MkOk.foot x.plan _, fun x k => congrArg (2 + ·) (MkOk.cnt x.plan _), fun x k => by
  show DBranch.mk _ _ _ = DBranch.mk _ _ _
  congr 1
  exact MkOk.idem x.plan _⟩
theorem fs_DStrategy {h : Hp} {s : Sl DStrategy} (H : s.Ok h) {i : Nat} (hi : i < s.l.length) : h.lds (Option.map (fun x => x) (Option.map (fun x => x.add (i * 2)) s.a)) 1 = some [.int .i64 s.l[i].minute] ∧ h.lds (Option.map (fun x => { block := x.block, off := x.off + 1 }) (Option.map (fun x => x.add (i * 2)) s.a)) 1 = some [s.l[i].branches.val] := ⟨fld0 H hi rfl, fldS H hi 1 (by decide) rfl⟩
instance : MkOk DStrategy := ⟨fun x k => MkOk.foot x.branches _, fun x k => congrArg (1 + ·) (MkOk.cnt x.branches _), fun x k => by
  show DStrategy.mk _ _ = DStrategy.mk _ _
  congr 1
  exact MkOk.idem x.branches _⟩
theorem fs_DWindow {h : Hp} {s : Sl DWindow} (H : s.Ok h) {i : Nat} (hi : i < s.l.length) : h.lds (Option.map (fun x => x) (Option.map (fun x => x.add (i * 2)) s.a)) 1 = some [.int .i64 s.l[i].src] ∧ h.lds (Option.map (fun x => { block := x.block, off := x.off + 1 }) (Option.map (fun x => x.add (i * 2)) s.a)) 1 = some [.int .i64 s.l[i].dst] := ⟨fld0 H hi rfl, fldS H hi 1 (by decide) rfl⟩
instance : MkOk DWindow := ⟨fun _ _ => rfl, fun _ _ => rfl, fun _ _ => rfl⟩
theorem fs_DDuty {h : Hp} {s : Sl DDuty} (H : s.Ok h) {i : Nat} (hi : i < s.l.length) : h.lds (Option.map (fun x => x) (Option.map (fun x => x.add (i * 4)) s.a)) 1 = some [.int .i64 s.l[i].src] ∧ h.lds (Option.map (fun x => { block := x.block, off := x.off + 1 }) (Option.map (fun x => x.add (i * 4)) s.a)) 1 = some [.int .i64 s.l[i].dst] ∧ h.lds (Option.map (fun x => { block := x.block, off := x.off + 2 }) (Option.map (fun x => x.add (i * 4)) s.a)) 1 = some [.int .i64 s.l[i].a] ∧ h.lds (Option.map (fun x => { block := x.block, off := x.off + 3 }) (Option.map (fun x => x.add (i * 4)) s.a)) 1 = some [.int .i64 s.l[i].b] := ⟨fld0 H hi rfl, fldS H hi 1 (by decide) rfl, fldS H hi 2 (by decide) rfl, fldS H hi 3 (by decide) rfl⟩
instance : MkOk DDuty := ⟨fun _ _ => rfl, fun _ _ => rfl, fun _ _ => rfl⟩
end Go.SL
