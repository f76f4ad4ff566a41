/- Plain theorems about the model: a symbolic state, its evaluation and its soundness. No condition; nothing of the program is named. -/
import Derived.Test.YtfbdafdbinbeaaaSLQ
set_option linter.unusedVariables false
set_option linter.unusedSimpArgs false
namespace Go.SL
open Go Go.RowKit
theorem none_of_le {h h' : Hp} {b : Nat} (hle : h.le h') (hn : h' b = none) : h b = none := by
  cases hh : h b with
  | none => rfl
  | some o => rw [← hn, hle b o hh]
theorem own_le {α : Type} [Enc α] [Foot α] {h h' : Hp} {x : α} (hle : h.le h') (ok : Enc.ok h x) (ow : Foot.own h x) : Foot.own h' x := (Foot.loc ok ow fun b _ o ho => hle b o ho).2
theorem le_keep' {h0 h h' : Hp} {f : List Nat} (hle : h0.le h) (hM : ∀ b ∈ f, h0 b = none) (hk : ∀ b o, h b = some o → ¬ (b ∈ f) → h' b = some o) : h0.le h' := fun b o hb =>
  hk b o (hle b o hb) fun hm => by rw [hM b hm] at hb; cases hb
class MkSz (α : Type) {β : outParam Type} [Mk α] [Con α β] [Sz β] : Prop where
  le : ∀ x : α, Mk.cnt x ≤ 6 + 6 * Sz.sz (Con.con x)
instance : MkSz Int := ⟨fun x => by show 1 ≤ _; omega⟩
theorem cntL_sz {α β : Type} [Mk α] [Con α β] [Sz β] [MkSz α] : ∀ l : List α, cntL l ≤ 6 * (l.length + ((l.map Con.con).map Sz.sz).sum)
  | [] => Nat.zero_le _
  | x :: l => by
    have h1 := cntL_sz l
    have h2 := MkSz.le x
    rw [cntL_cons]
    simp only [List.length_cons, List.map_cons, List.sum_cons]
    omega
instance {α β : Type} [Mk α] [Con α β] [Sz β] [MkSz α] : MkSz (Sl α) := ⟨fun s => by
  have := cntL_sz s.l
  rw [con_sl, sz_list, List.length_map]
  show cntL s.l ≤ _
  omega⟩
instance : MkSz DCall := ⟨fun x => by show 5 ≤ _; omega⟩
instance : MkSz DPassage := ⟨fun x => by show 5 ≤ _; omega⟩
instance : MkSz DPart := ⟨fun x => by show 3 ≤ _; omega⟩
instance : MkSz DSurge := ⟨fun x => by show 3 ≤ _; omega⟩
instance : MkSz DPoint := ⟨fun x => by show 2 ≤ _; omega⟩
instance : MkSz DSegment := ⟨fun x => by show 5 ≤ _; omega⟩
instance : MkSz DShip := ⟨fun x => by show 6 ≤ _; omega⟩
instance : MkSz DWindow := ⟨fun x => by show 2 ≤ _; omega⟩
instance : MkSz DDuty := ⟨fun x => by show 4 ≤ _; omega⟩
theorem cnt_sl {α β : Type} [Mk α] [Con α β] [Sz β] [MkSz α] (s : Sl α) : Mk.cnt s ≤ 6 * Sz.sz (Con.con s) := by
  have := cntL_sz s.l
  rw [con_sl, sz_list, List.length_map]
  exact this
instance : MkSz DOption := ⟨fun x => by
  have := cnt_sl x.pas
  show 3 + Mk.cnt x.pas ≤ 6 + 6 * Sz.sz (Con.con x.pas)
  omega⟩
instance : MkSz DBranch := ⟨fun x => by
  have := cnt_sl x.plan
  show 2 + Mk.cnt x.plan ≤ 6 + 6 * Sz.sz (Con.con x.plan)
  omega⟩
theorem cnt_le {α β : Type} [Mk α] [Con α β] [Sz β] [MkSz α] {s : Sl α} {c : List β} {n : Nat} (e : Con.con s = c) (h : Sz.sz c ≤ n) : Mk.cnt s ≤ 6 * n := by
  have := cnt_sl s
  rw [e] at this
  omega
theorem put_val {α : Type} [Mk α] (s : Sl α) (k : Int) : (Mk.put s k).val = s.val := by
  show Value.slice s.a (mkL s.l k).length s.cap = _
  rw [mkL_length]; rfl
end Go.SL
