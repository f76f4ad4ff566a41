/- Plain theorems about the model: a symbolic state, its evaluation and its soundness. No condition; nothing of the program is named. -/
import Derived.Test.YtfbdafdbinbeaaaSLN
set_option linter.unusedVariables false
set_option linter.unusedSimpArgs false
namespace Go.SL
open Go Go.RowKit
def News (h h' : Hp) (f : List Nat) : Prop := (∀ b ∈ f, h b = none ∧ h' b ≠ none) ∧ f.Nodup
theorem News.append {h h1 h2 : Hp} {f g : List Nat} (H : News h h1 f) (l1 : h.le h1) (l2 : h1.le h2) (K : News h1 h2 g) : News h h2 (f ++ g) := by
  refine ⟨fun b hb => ?_, List.nodup_append.2 ⟨H.2, K.2, fun a ha b hb e => ?_⟩⟩
  · rcases List.mem_append.1 hb with hb | hb
    · refine ⟨(H.1 b hb).1, ?_⟩
      cases hh : h1 b with
      | none => exact ((H.1 b hb).2 hh).elim
      | some o => rw [l2 b o hh]; simp
    · refine ⟨?_, (K.1 b hb).2⟩
      cases hh : h b with
      | none => rfl
      | some o => rw [← (K.1 b hb).1, l1 b o hh]
  · subst e; exact (H.1 a ha).2 (K.1 a hb).1
theorem Mine.news {α : Type} [Enc α] [Foot α] {h h' : Hp} {x : α} (H : Mine h h' x) : News h h' (Foot.foot x) := ⟨fun b hb => ⟨H.2.1 b hb, Foot.dom H.1 b hb⟩, H.2.2⟩
theorem News.mine {α : Type} [Enc α] [Foot α] {h h' : Hp} {x : α} (ho : Foot.own h' x) (H : News h h' (Foot.foot x)) : Mine h h' x := ⟨ho, fun b hb => (H.1 b hb).1, H.2⟩
/-- The datum stays where what it needs stays. -/
theorem ok_keep {α : Type} [Enc α] [Foot α] {h h' : Hp} {x : α} {M : Nat → Prop} (hok : Enc.ok h x) (hown : Foot.own h x) (hM : ∀ b ∈ Foot.foot x, ¬ M b) (hk : ∀ b o, h b = some o → ¬ M b → h' b = some o) : Enc.ok h' x ∧ Foot.own h' x :=
  Foot.loc hok hown fun b hb o ho => hk b o ho (hM b hb)
/-- What was seen before blocks were new stays behind a write into them. -/
theorem le_keep {h0 h h' : Hp} {M : Nat → Prop} (hle : h0.le h) (hM : ∀ b, M b → h0 b = none) (hk : ∀ b o, h b = some o → ¬ M b → h' b = some o) : h0.le h' := fun b o hb =>
  hk b o (hle b o hb) fun hm => by rw [hM b hm] at hb; cases hb
end Go.SL
