/- Plain theorems about the model: a symbolic state, its evaluation and its soundness. No condition; nothing of the program is named. -/
import Derived.Test.YtfbdafdbinbeaaaSL20
set_option linter.unusedVariables false
set_option linter.unusedSimpArgs false
namespace Go.SL
open Go Go.RowKit

/-! ### the blocks of a datum -/
theorem lds_block {h h' : Hp} {a : Addr} {n : Nat} {l : List Value} (hk : ∀ o, h a.block = some o → h' a.block = some o) (e : h.lds (some a) n = some l) : h'.lds (some a) n = some l := by
  obtain ⟨h1, h2⟩ := cellsAt_spec e
  refine cellsAt_mk h1 fun j v hj => ?_
  have := h2 j v hj
  unfold Hp.cell at this ⊢
  have hb : (a.add (0 + j)).block = a.block := by unfold Addr.add; split <;> rfl
  rw [hb] at this ⊢
  split at this
  · rename_i c _ _ hh
    rw [hk _ hh]
    exact this
  · cases this

class Foot (α : Type) [Enc α] where
  foot : α → List Nat
  own : Hp → α → Prop
  loc : ∀ {h h' : Hp} {x : α}, Enc.ok h x → own h x → (∀ b ∈ foot x, ∀ o, h b = some o → h' b = some o) → Enc.ok h' x ∧ own h' x
  dom : ∀ {h : Hp} {x : α}, own h x → ∀ b ∈ foot x, h b ≠ none

def Sl.blkOf {α : Type} (s : Sl α) : Nat := match s.a with | some a => a.block | none => 0
def Sl.own {α : Type} [Enc α] [Foot α] (h : Hp) (s : Sl α) : Prop :=
  s.l ≠ [] → (∃ g cur e, s.a = some ⟨g, 0, none⟩ ∧ h g = some (.cells cur e (0, 0)) ∧ cur.size = s.cap * Enc.size α) ∧ ∀ x ∈ s.l, Foot.own h x
def Sl.foot {α : Type} [Enc α] [Foot α] (s : Sl α) : List Nat := match s.l with | [] => [] | _ :: _ => s.blkOf :: s.l.flatMap Foot.foot
theorem Sl.foot_ne {α : Type} [Enc α] [Foot α] {s : Sl α} (h : s.l ≠ []) : s.foot = s.blkOf :: s.l.flatMap Foot.foot := by
  unfold Sl.foot
  split
  · rename_i e; exact (h e).elim
  · rfl
theorem Sl.foot_nil {α : Type} [Enc α] [Foot α] {s : Sl α} (h : s.l = []) : s.foot = [] := by
  unfold Sl.foot; rw [h]
instance {α : Type} [Enc α] [Foot α] : Foot (Sl α) where
  foot := Sl.foot
  own := Sl.own
  loc {h h' s} hok hown hk := by
    have hok : s.Ok h := hok
    by_cases hl : s.l = []
    · exact ⟨(show Sl.Ok h' s from ⟨hok.1, hok.2.1, fun i x hx => (by rw [hl] at hx; simp at hx), fun x hx => (by rw [hl] at hx; cases hx), hok.2.2.2.2⟩), fun hne => (hne hl).elim⟩
    · obtain ⟨⟨g, cur, e, ha, hb, hsz⟩, hx⟩ := hown hl
      have hfoot : Sl.foot s = s.blkOf :: s.l.flatMap Foot.foot := Sl.foot_ne hl
      have hbo : s.blkOf = g := by unfold Sl.blkOf; rw [ha]
      have hg : ∀ o, h g = some o → h' g = some o := hk g (by show g ∈ Sl.foot s; rw [hfoot, hbo]; exact List.mem_cons_self ..)
      have hel : ∀ x ∈ s.l, Enc.ok h' x ∧ Foot.own h' x := fun x hm => Foot.loc (hok.2.2.2.1 x hm) (hx x hm) fun b hb => hk b (by
        show b ∈ Sl.foot s
        rw [hfoot]; exact List.mem_cons_of_mem _ (List.mem_flatMap.2 ⟨x, hm, hb⟩))
      refine ⟨(show Sl.Ok h' s from ⟨hok.1, hok.2.1, fun i x hi => ?_, fun x hm => (hel x hm).1, hok.2.2.2.2⟩), fun _ => ⟨⟨g, cur, e, ha, hg _ hb, hsz⟩, fun x hm => (hel x hm).2⟩⟩
      have := hok.2.2.1 i x hi
      rw [ha] at this ⊢
      refine lds_block (fun o ho => ?_) this
      have hb : ((⟨g, 0, none⟩ : Addr).add (i * Enc.size α)).block = g := by unfold Addr.add; split <;> rfl
      rw [hb] at ho ⊢
      exact hg o ho
  dom {h s} hown b hb := by
    by_cases hl : s.l = []
    · rw [Sl.foot_nil hl] at hb; cases hb
    · obtain ⟨⟨g, cur, e, ha, hbk, hsz⟩, hx⟩ := hown hl
      rw [Sl.foot_ne hl] at hb
      rcases List.mem_cons.1 hb with rfl | hb
      · have hbo : s.blkOf = g := by unfold Sl.blkOf; rw [ha]
        rw [hbo, hbk]; simp
      · obtain ⟨x, hm, hb⟩ := List.mem_flatMap.1 hb
        exact Foot.dom (hx x hm) b hb
instance : Foot Int := ⟨fun _ => [], fun _ _ => True, fun H _ _ => ⟨H, trivial⟩, fun _ b hb => by cases hb⟩

/-- New memory of its own: behind h, in h'. -/
def Mine {α : Type} [Enc α] [Foot α] (h h' : Hp) (x : α) : Prop := Foot.own h' x ∧ (∀ b ∈ Foot.foot x, h b = none) ∧ (Foot.foot x).Nodup
theorem Mine.back {α : Type} [Enc α] [Foot α] {h0 h h' : Hp} {x : α} (hle : h0.le h) (H : Mine h h' x) : Mine h0 h' x :=
  ⟨H.1, fun b hb => by
    cases hh : h0 b with
    | none => rfl
    | some o => rw [← H.2.1 b hb, hle b o hh], H.2.2⟩
theorem Mine.on {α : Type} [Enc α] [Foot α] {h h' h2 : Hp} {x : α} (hle : h'.le h2) (hok : Enc.ok h' x) (H : Mine h h' x) : Mine h h2 x :=
  ⟨(Foot.loc hok H.1 fun b _ o ho => hle b o ho).2, H.2.1, H.2.2⟩
theorem Mine.flat {α : Type} [Enc α] [Foot α] {h h' : Hp} {x : α} (hf : Foot.foot x = []) (ho : Foot.own h' x) : Mine h h' x := ⟨ho, fun b hb => (by rw [hf] at hb; cases hb), by rw [hf]; exact List.nodup_nil⟩
theorem Mine.nil {α : Type} [Enc α] [Foot α] {h h' : Hp} {a : Option Addr} {c : Nat} : Mine h h' (⟨a, c, []⟩ : Sl α) := Mine.flat rfl fun h => (h rfl).elim
/-- Several, each new and none twice. -/
def Mines {α : Type} [Enc α] [Foot α] (h h' : Hp) (l : List α) : Prop := (∀ x ∈ l, Foot.own h' x) ∧ (∀ b ∈ l.flatMap Foot.foot, h b = none) ∧ (l.flatMap Foot.foot).Nodup
theorem Mines.nil {α : Type} [Enc α] [Foot α] {h h' : Hp} : Mines h h' ([] : List α) := ⟨fun x hx => (by cases hx), fun b hb => (by cases hb), List.nodup_nil⟩
theorem Mines.snoc {α : Type} [Enc α] [Foot α] {h h' h2 : Hp} {l : List α} {x : α} (H : Mines h h' l) (hok : ∀ y ∈ l, Enc.ok h' y) (hle : h'.le h2) (h0 : h.le h') (hx : Mine h' h2 x) : Mines h h2 (l ++ [x]) := by
  have hx' := hx.back h0
  refine ⟨fun y hy => ?_, fun b hb => ?_, ?_⟩
  · rcases List.mem_append.1 hy with hy | hy
    · exact (Foot.loc (hok y hy) (H.1 y hy) fun b _ o ho => hle b o ho).2
    · rw [List.mem_singleton.1 hy]; exact hx.1
  · rw [List.flatMap_append, List.mem_append] at hb
    rcases hb with hb | hb
    · exact H.2.1 b hb
    · rw [List.flatMap_cons, List.flatMap_nil, List.append_nil] at hb
      exact hx'.2.1 b hb
  · rw [List.flatMap_append, List.flatMap_cons, List.flatMap_nil, List.append_nil]
    refine List.nodup_append.2 ⟨H.2.2, hx.2.2, fun a ha b hb e => ?_⟩
    subst e
    obtain ⟨y, hy, ha⟩ := List.mem_flatMap.1 ha
    exact Foot.dom (H.1 y hy) a ha (hx.2.1 a hb)
theorem Mines.flat {α : Type} [Enc α] [Foot α] {h h' : Hp} {l : List α} (hf : ∀ x : α, Foot.foot x = []) (ho : ∀ x : α, Foot.own h' x) : Mines h h' l := by
  have : l.flatMap (Foot.foot (α := α)) = [] := by
    rw [List.flatMap_eq_nil_iff]; exact fun x _ => hf x
  exact ⟨fun x _ => ho x, fun b hb => (by rw [this] at hb; cases hb), by rw [this]; exact List.nodup_nil⟩

theorem Pub.mine {α : Type} [Enc α] [Foot α] {hb h h' : Hp} {e : TypeId} {l : List α} {ad : Option Addr} {cap : Nat} (H : Pub h e (Enc.size α) l.length (l.flatMap Enc.enc) ad cap h') (hle : hb.le h) (hok : ∀ x ∈ l, Enc.ok h x) (hm : Mines hb h l) : Mine hb h' (Sl.mk ad cap l) := by
  have hl' := H.le
  by_cases hl : l = []
  · subst hl; exact Mine.nil
  · have hlen : l.length ≠ 0 := fun e => hl (List.length_eq_zero_iff.1 e)
    rcases H.2.2.2 with ⟨_, hn, _⟩ | ⟨g, cur, rfl, hg, rfl, hsz, _⟩
    · exact (hlen hn).elim
    · have hfoot : Foot.foot (Sl.mk (some ⟨g, 0, none⟩) cap l) = g :: l.flatMap Foot.foot := Sl.foot_ne (s := Sl.mk (some ⟨g, 0, none⟩) cap l) hl
      refine ⟨fun _ => ⟨⟨g, cur, e, rfl, by simp [Hp.ins], hsz⟩, fun x hx => (Foot.loc (hok x hx) (hm.1 x hx) fun b _ o ho => hl' b o ho).2⟩, fun b hb' => ?_, ?_⟩
      · rw [hfoot] at hb'
        rcases List.mem_cons.1 hb' with rfl | hb'
        · cases hh : hb b with
          | none => rfl
          | some o => rw [hle b o hh] at hg; cases hg
        · exact hm.2.1 b hb'
      · rw [hfoot]
        refine List.nodup_cons.2 ⟨fun hx => ?_, hm.2.2⟩
        obtain ⟨y, hy, ha⟩ := List.mem_flatMap.1 hx
        exact Foot.dom (hm.1 y hy) g ha hg
theorem T_pubM {α : Type} [Enc α] [Foot α] {x : Cx} {st : St} {c : Code} {Q : Exit → St → Prop} (r : Nat) {e : TypeId} (l : List α) {sz n : Nat} {xs : List Value} (hr : look r st.p = some (.row e sz n xs)) (hsz : sz = Enc.size α) (hn : n = l.length) (hxs : xs = l.flatMap Enc.enc) (hp : 0 < Enc.size α)
    (hok : ∀ x ∈ l, Enc.ok st.h x) (hb : Hp) (hbl : hb.le st.h) (hm : Mines hb st.h l) (h : ∀ (s : Sl α) h', s.l = l → s.Ok h' → st.h.le h' → Mine hb h' s → T x (st.sub r s.val h') c Q) : T x st c Q := by
  subst hsz hn hxs
  refine T_pub r hr fun ad cap h' H => ?_
  exact h ⟨ad, cap, l⟩ h' rfl (H.sl hp hok) H.le (H.mine hbl hok hm)
end Go.SL
