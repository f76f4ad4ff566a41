/- Plain theorems about the model: a symbolic state, its evaluation and its soundness. No condition; nothing of the program is named. -/
import Derived.Test.YtfbdafdbinbeaaaSLP
import Derived.Laws.Strings
import Derived.WideShapes
set_option linter.unusedVariables false
set_option linter.unusedSimpArgs false
namespace Go.SL
open Go Go.RowKit

/-- What a call has added may be forgotten. -/
theorem Ct.forget {P : Program} {f : FuncId} {args : List Value} {h : Hp} {p : Value → Prop} (H : Ct P f args h fun v _ => p v) : Ct P f args h fun v h' => p v ∧ h' = h := by
  unfold Ct at *
  exact ⟨H.1, fun W hs => (H.2 W hs).mono fun _ _ ⟨v, h', he, r, b, l, s, n⟩ => ⟨v, h, he, ⟨r, rfl⟩, b, Hp.le_refl _, fun b o hb => s b o (l b o hb), fun b o h1 h2 => by rw [h1] at h2; cases h2⟩⟩
theorem nilOk {α : Type} [Enc α] {h : Hp} : (⟨none, 0, []⟩ : Sl α).Ok h := ⟨Nat.le_refl _, fun h => (h rfl).elim, fun i x hx => (by cases hx), fun x hx => (by cases hx), Nat.zero_le _⟩
theorem filter_take_pos {α : Type} {p : α → Bool} {l : List α} {k : Nat} (hk : k < l.length) (hq : p l[k] = true) : (l.take (k + 1)).filter p = (l.take k).filter p ++ [l[k]] := by
  rw [List.take_succ_eq_append_getElem hk, List.filter_append, List.filter_cons_of_pos hq, List.filter_nil]
theorem filter_take_neg {α : Type} {p : α → Bool} {l : List α} {k : Nat} (hk : k < l.length) (hq : p l[k] = false) : (l.take (k + 1)).filter p = (l.take k).filter p := by
  rw [List.take_succ_eq_append_getElem hk, List.filter_append, List.filter_cons_of_neg (by rw [hq]; exact Bool.false_ne_true), List.filter_nil, List.append_nil]
theorem map_take_succ {α β : Type} {f : α → β} {l : List α} {k : Nat} (hk : k < l.length) : (l.take (k + 1)).map f = (l.take k).map f ++ [f l[k]] := by
  rw [List.take_succ_eq_append_getElem hk, List.map_append]; rfl
@[go_sem] theorem ev_strbeq {a b : ByteArray} : (a.toList == b.toList) = decide (a = b) := by
  rw [ByteArray.toList_eq, ByteArray.toList_eq]
  by_cases h : a = b
  · subst h; simp
  · rw [decide_eq_false h]
    exact beq_eq_false_iff_ne.2 fun e => h (WideShapes.bytes_inj e)
def byteAt (s : ByteArray) (k : Nat) : Int := ((s[k]?).getD 0).toNat
@[go_sem] theorem ev_vindexS {P : Program} {g : Bool} {t : TypeId} {s : ByteArray} {i : SV} {L : SV → Prop} (ht : arrT P t = none) : vindex P g t (.c (.v (.string s))) i L = ((g = true → ∃ k, Value.isI k i.val) ∧ strT P t = true ∧ (g = true → 0 ≤ Value.I i.val ∧ Value.I i.val < s.size) ∧ L (.c (.v (.int .u8 (byteAt s (Value.I i.val).toNat))))) := by
  unfold vindex
  rw [ht]
  simp [Value.isS, SV.val, SC.val, Value.S, byteAt]
class Sz (β : Type) where
  sz : β → Nat
instance : Sz Int := ⟨fun _ => 0⟩
instance : Sz Bool := ⟨fun _ => 0⟩
instance : Sz ByteArray := ⟨fun s => s.size⟩
instance {β : Type} [Sz β] : Sz (List β) := ⟨fun l => l.length + (l.map Sz.sz).sum⟩
theorem sz_list {β : Type} [Sz β] {l : List β} : Sz.sz l = l.length + (l.map Sz.sz).sum := rfl
theorem sz_len {β : Type} [Sz β] {l : List β} {n : Nat} (h : Sz.sz l ≤ n) : l.length ≤ n := by rw [sz_list] at h; omega
theorem sz_mem {β : Type} [Sz β] {l : List β} {n : Nat} (h : Sz.sz l ≤ n) {x : β} (hx : x ∈ l) : Sz.sz x ≤ n := by
  have := mem_le_sum (List.mem_map_of_mem (f := Sz.sz) hx)
  rw [sz_list] at h; omega
class BlkCon (α : Type) (β : outParam Type) [Blk α] [Con α β] [Sz β] : Prop where
  eq : ∀ x : α, Blk.blk x = Sz.sz (Con.con x)
instance : BlkCon Int Int := ⟨fun _ => rfl⟩
instance : BlkCon Bool Bool := ⟨fun _ => rfl⟩
instance : BlkCon ByteArray ByteArray := ⟨fun _ => rfl⟩
instance {α β : Type} [Blk α] [Con α β] [Sz β] [BlkCon α β] : BlkCon (Sl α) (List β) := ⟨fun s => by
  rw [blk_sl, sz_list, con_sl, List.length_map, List.map_map]
  congr 2
  exact List.map_congr_left fun x _ => BlkCon.eq x⟩
theorem blk_sz {α β : Type} [Blk α] [Con α β] [Sz β] [BlkCon α β] {a s : α} (h : Con.con s = Con.con a) {n : Nat} (hb : Blk.blk a ≤ n) : Sz.sz (Con.con s) ≤ n := by
  rw [h, ← BlkCon.eq]; exact hb
theorem con_len' {α β : Type} [Con α β] (s : Sl α) : (Con.con s).length = s.l.length := by rw [con_sl, List.length_map]
theorem con_at {α β : Type} [Con α β] {s : Sl α} {k : Nat} (hk : k < s.l.length) : (Con.con s)[k]? = some (Con.con s.l[k]) := by rw [con_sl, List.getElem?_map, List.getElem?_eq_getElem hk]; rfl
theorem con_get {α β : Type} [Con α β] {s : Sl α} {k : Nat} (hk : k < s.l.length) (hk' : k < (Con.con s).length) : (Con.con s)[k] = Con.con s.l[k] := by
  have := con_at hk
  rw [List.getElem?_eq_getElem hk'] at this
  exact Option.some.inj this

instance : Sz DCall := ⟨fun _ => 0⟩
instance : BlkCon DCall DCall := ⟨fun _ => rfl⟩
theorem con_lCall (s : Sl DCall) : Con.con s = s.l := List.map_id _
instance : Sz DPassage := ⟨fun _ => 0⟩
instance : BlkCon DPassage DPassage := ⟨fun _ => rfl⟩
theorem con_lPassage (s : Sl DPassage) : Con.con s = s.l := List.map_id _
instance : Sz POption := ⟨fun c => Sz.sz c.pas⟩
theorem sz_POption {c : POption} : Sz.sz c = Sz.sz c.pas := rfl
instance : BlkCon DOption POption := ⟨fun c => by
  rw [blk_DOption]
  show _ = Sz.sz (Con.con c.pas)
  simp only [BlkCon.eq]⟩
instance : Sz PCrew := ⟨fun c => Sz.sz c.moves⟩
theorem sz_PCrew {c : PCrew} : Sz.sz c = Sz.sz c.moves := rfl
instance : BlkCon DCrew PCrew := ⟨fun c => by
  rw [blk_DCrew]
  show _ = Sz.sz (Con.con c.moves)
  simp only [BlkCon.eq]⟩
instance : Sz DPart := ⟨fun _ => 0⟩
instance : BlkCon DPart DPart := ⟨fun _ => rfl⟩
theorem con_lPart (s : Sl DPart) : Con.con s = s.l := List.map_id _
instance : Sz PTide := ⟨fun c => Sz.sz c.parts⟩
theorem sz_PTide {c : PTide} : Sz.sz c = Sz.sz c.parts := rfl
instance : BlkCon DTide PTide := ⟨fun c => by
  rw [blk_DTide]
  show _ = Sz.sz (Con.con c.parts)
  simp only [BlkCon.eq]⟩
instance : Sz DSurge := ⟨fun _ => 0⟩
instance : BlkCon DSurge DSurge := ⟨fun _ => rfl⟩
theorem con_lSurge (s : Sl DSurge) : Con.con s = s.l := List.map_id _
instance : Sz PForecast := ⟨fun c => Sz.sz c.tide + Sz.sz c.surges⟩
theorem sz_PForecast {c : PForecast} : Sz.sz c = Sz.sz c.tide + Sz.sz c.surges := rfl
instance : BlkCon DForecast PForecast := ⟨fun c => by
  rw [blk_DForecast]
  show _ = Sz.sz (Con.con c.tide) + Sz.sz (Con.con c.surges)
  simp only [BlkCon.eq]⟩
instance : Sz DPoint := ⟨fun c => Sz.sz c.name⟩
theorem sz_DPoint {c : DPoint} : Sz.sz c = Sz.sz c.name := rfl
instance : BlkCon DPoint DPoint := ⟨fun c => by
  rw [blk_DPoint]
  show _ = Sz.sz (Con.con c.name)
  simp only [BlkCon.eq]⟩
theorem con_lPoint (s : Sl DPoint) : Con.con s = s.l := List.map_id _
instance : Sz DSegment := ⟨fun _ => 0⟩
instance : BlkCon DSegment DSegment := ⟨fun _ => rfl⟩
theorem con_lSegment (s : Sl DSegment) : Con.con s = s.l := List.map_id _
instance : Sz PChart := ⟨fun c => Sz.sz c.points + Sz.sz c.segments⟩
theorem sz_PChart {c : PChart} : Sz.sz c = Sz.sz c.points + Sz.sz c.segments := rfl
instance : BlkCon DChart PChart := ⟨fun c => by
  rw [blk_DChart]
  show _ = Sz.sz (Con.con c.points) + Sz.sz (Con.con c.segments)
  simp only [BlkCon.eq]⟩
instance : Sz DShip := ⟨fun c => Sz.sz c.name⟩
theorem sz_DShip {c : DShip} : Sz.sz c = Sz.sz c.name := rfl
instance : BlkCon DShip DShip := ⟨fun c => by
  rw [blk_DShip]
  show _ = Sz.sz (Con.con c.name)
  simp only [BlkCon.eq]⟩
theorem con_lShip (s : Sl DShip) : Con.con s = s.l := List.map_id _
instance : Sz DRegime := ⟨fun _ => 0⟩
instance : BlkCon DRegime DRegime := ⟨fun _ => rfl⟩
theorem con_lRegime (s : Sl DRegime) : Con.con s = s.l := List.map_id _
instance : Sz PHarbour := ⟨fun c => Sz.sz c.forecast + Sz.sz c.chart + Sz.sz c.fleet + Sz.sz c.crew⟩
theorem sz_PHarbour {c : PHarbour} : Sz.sz c = Sz.sz c.forecast + Sz.sz c.chart + Sz.sz c.fleet + Sz.sz c.crew := rfl
instance : BlkCon DHarbour PHarbour := ⟨fun c => by
  rw [blk_DHarbour]
  show _ = Sz.sz (Con.con c.forecast) + Sz.sz (Con.con c.chart) + Sz.sz (Con.con c.fleet) + Sz.sz (Con.con c.crew)
  simp only [BlkCon.eq]⟩
instance : Sz PBranch := ⟨fun c => Sz.sz c.plan⟩
theorem sz_PBranch {c : PBranch} : Sz.sz c = Sz.sz c.plan := rfl
instance : BlkCon DBranch PBranch := ⟨fun c => by
  rw [blk_DBranch]
  show _ = Sz.sz (Con.con c.plan)
  simp only [BlkCon.eq]⟩
instance : Sz PStrategy := ⟨fun c => Sz.sz c.branches⟩
theorem sz_PStrategy {c : PStrategy} : Sz.sz c = Sz.sz c.branches := rfl
instance : BlkCon DStrategy PStrategy := ⟨fun c => by
  rw [blk_DStrategy]
  show _ = Sz.sz (Con.con c.branches)
  simp only [BlkCon.eq]⟩
instance : Sz DWindow := ⟨fun _ => 0⟩
instance : BlkCon DWindow DWindow := ⟨fun _ => rfl⟩
theorem con_lWindow (s : Sl DWindow) : Con.con s = s.l := List.map_id _
instance : Sz DDuty := ⟨fun _ => 0⟩
instance : BlkCon DDuty DDuty := ⟨fun _ => rfl⟩
theorem con_lDuty (s : Sl DDuty) : Con.con s = s.l := List.map_id _
end Go.SL
