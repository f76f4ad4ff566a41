/- Plain theorems about the model: a symbolic state, its evaluation and its soundness. No condition; nothing of the program is named. -/
import Derived.Test.YtfbdafdbinbeaaaSLG
set_option linter.unusedVariables false
set_option linter.unusedSimpArgs false
namespace Go.SL
open Go Go.RowKit

def mkB (k : Int) : Bool := Int.tmod k 3 == 0
/-- The text of a mark: as the program writes it (digits, behind an m). -/
def mkDigits : Nat → Nat → List UInt8 → List UInt8
  | 0, _, acc => acc
  | f + 1, n, acc => if n = 0 then acc else mkDigits f (n / 10) (UInt8.ofNat (48 + n % 10) :: acc)
def mkT (k : Int) : ByteArray := ⟨((109 : UInt8) :: (if k ≤ 0 then [48] else mkDigits 64 k.toNat [])).toArray⟩

instance : Foot DCall := ⟨fun _ => [], fun _ _ => True, fun H _ _ => ⟨H, trivial⟩, fun _ b hb => by cases hb⟩
theorem foot_DCall (c : DCall) : Foot.foot c = [] := rfl
instance : Foot DPassage := ⟨fun _ => [], fun _ _ => True, fun H _ _ => ⟨H, trivial⟩, fun _ b hb => by cases hb⟩
theorem foot_DPassage (c : DPassage) : Foot.foot c = [] := rfl
instance : Foot DOption where
  foot c := Foot.foot c.pas
  own h c := Foot.own h c.pas
  loc {h h' c} hok hown hk := by
    have hok : I64 c.start ∧ I64 c.arr ∧ I64 c.cost ∧ c.pas.Ok h := hok
    have hown : Foot.own h c.pas := hown
    obtain ⟨k0, w0⟩ := Foot.loc (x := c.pas) (h' := h') (hok.2.2.2) (hown) fun b hb => hk b hb
    exact ⟨⟨hok.1, hok.2.1, hok.2.2.1, k0⟩, w0⟩
  dom {h c} hown b hb := by
    have hown : Foot.own h c.pas := hown
    have hb : b ∈ Foot.foot c.pas := hb
    exact Foot.dom hown b hb
theorem foot_DOption (c : DOption) : Foot.foot c = Foot.foot c.pas := rfl
theorem own_DOption {h : Hp} {c : DOption} : Foot.own h c = (Foot.own h c.pas) := rfl
instance : Foot DCrew where
  foot c := Foot.foot c.moves
  own h c := Foot.own h c.moves
  loc {h h' c} hok hown hk := by
    have hok : I64 c.tugs ∧ I64 c.pilots ∧ I64 c.rest ∧ c.moves.Ok h := hok
    have hown : Foot.own h c.moves := hown
    obtain ⟨k0, w0⟩ := Foot.loc (x := c.moves) (h' := h') (hok.2.2.2) (hown) fun b hb => hk b hb
    exact ⟨⟨hok.1, hok.2.1, hok.2.2.1, k0⟩, w0⟩
  dom {h c} hown b hb := by
    have hown : Foot.own h c.moves := hown
    have hb : b ∈ Foot.foot c.moves := hb
    exact Foot.dom hown b hb
theorem foot_DCrew (c : DCrew) : Foot.foot c = Foot.foot c.moves := rfl
theorem own_DCrew {h : Hp} {c : DCrew} : Foot.own h c = (Foot.own h c.moves) := rfl
instance : Foot DPart := ⟨fun _ => [], fun _ _ => True, fun H _ _ => ⟨H, trivial⟩, fun _ b hb => by cases hb⟩
theorem foot_DPart (c : DPart) : Foot.foot c = [] := rfl
instance : Foot DTide where
  foot c := Foot.foot c.parts
  own h c := Foot.own h c.parts
  loc {h h' c} hok hown hk := by
    have hok : I64 c.mean ∧ c.parts.Ok h := hok
    have hown : Foot.own h c.parts := hown
    obtain ⟨k0, w0⟩ := Foot.loc (x := c.parts) (h' := h') (hok.2) (hown) fun b hb => hk b hb
    exact ⟨⟨hok.1, k0⟩, w0⟩
  dom {h c} hown b hb := by
    have hown : Foot.own h c.parts := hown
    have hb : b ∈ Foot.foot c.parts := hb
    exact Foot.dom hown b hb
theorem foot_DTide (c : DTide) : Foot.foot c = Foot.foot c.parts := rfl
theorem own_DTide {h : Hp} {c : DTide} : Foot.own h c = (Foot.own h c.parts) := rfl
instance : Foot DSurge := ⟨fun _ => [], fun _ _ => True, fun H _ _ => ⟨H, trivial⟩, fun _ b hb => by cases hb⟩
theorem foot_DSurge (c : DSurge) : Foot.foot c = [] := rfl
instance : Foot DForecast where
  foot c := Foot.foot c.tide ++ Foot.foot c.surges
  own h c := Foot.own h c.tide ∧ Foot.own h c.surges
  loc {h h' c} hok hown hk := by
    have hok : Enc.ok h c.tide ∧ c.surges.Ok h := hok
    have hown : Foot.own h c.tide ∧ Foot.own h c.surges := hown
    obtain ⟨k0, w0⟩ := Foot.loc (x := c.tide) (h' := h') (hok.1) (hown.1) fun b hb => hk b (List.mem_append_left _ hb)
    obtain ⟨k1, w1⟩ := Foot.loc (x := c.surges) (h' := h') (hok.2) (hown.2) fun b hb => hk b (List.mem_append_right _ hb)
    exact ⟨⟨k0, k1⟩, ⟨w0, w1⟩⟩
  dom {h c} hown b hb := by
    have hown : Foot.own h c.tide ∧ Foot.own h c.surges := hown
    have hb : b ∈ Foot.foot c.tide ++ Foot.foot c.surges := hb
    simp only [List.mem_append] at hb
    rcases hb with h0 | h1
    · exact Foot.dom (hown.1) b h0
    · exact Foot.dom (hown.2) b h1
theorem foot_DForecast (c : DForecast) : Foot.foot c = Foot.foot c.tide ++ Foot.foot c.surges := rfl
theorem own_DForecast {h : Hp} {c : DForecast} : Foot.own h c = (Foot.own h c.tide ∧ Foot.own h c.surges) := rfl
instance : Foot DPoint := ⟨fun _ => [], fun _ _ => True, fun H _ _ => ⟨H, trivial⟩, fun _ b hb => by cases hb⟩
theorem foot_DPoint (c : DPoint) : Foot.foot c = [] := rfl
instance : Foot DSegment := ⟨fun _ => [], fun _ _ => True, fun H _ _ => ⟨H, trivial⟩, fun _ b hb => by cases hb⟩
theorem foot_DSegment (c : DSegment) : Foot.foot c = [] := rfl
instance : Foot DChart where
  foot c := Foot.foot c.points ++ Foot.foot c.segments
  own h c := Foot.own h c.points ∧ Foot.own h c.segments
  loc {h h' c} hok hown hk := by
    have hok : c.points.Ok h ∧ c.segments.Ok h := hok
    have hown : Foot.own h c.points ∧ Foot.own h c.segments := hown
    obtain ⟨k0, w0⟩ := Foot.loc (x := c.points) (h' := h') (hok.1) (hown.1) fun b hb => hk b (List.mem_append_left _ hb)
    obtain ⟨k1, w1⟩ := Foot.loc (x := c.segments) (h' := h') (hok.2) (hown.2) fun b hb => hk b (List.mem_append_right _ hb)
    exact ⟨⟨k0, k1⟩, ⟨w0, w1⟩⟩
  dom {h c} hown b hb := by
    have hown : Foot.own h c.points ∧ Foot.own h c.segments := hown
    have hb : b ∈ Foot.foot c.points ++ Foot.foot c.segments := hb
    simp only [List.mem_append] at hb
    rcases hb with h0 | h1
    · exact Foot.dom (hown.1) b h0
    · exact Foot.dom (hown.2) b h1
theorem foot_DChart (c : DChart) : Foot.foot c = Foot.foot c.points ++ Foot.foot c.segments := rfl
theorem own_DChart {h : Hp} {c : DChart} : Foot.own h c = (Foot.own h c.points ∧ Foot.own h c.segments) := rfl
instance : Foot DShip := ⟨fun _ => [], fun _ _ => True, fun H _ _ => ⟨H, trivial⟩, fun _ b hb => by cases hb⟩
theorem foot_DShip (c : DShip) : Foot.foot c = [] := rfl
instance : Foot DRegime := ⟨fun _ => [], fun _ _ => True, fun H _ _ => ⟨H, trivial⟩, fun _ b hb => by cases hb⟩
theorem foot_DRegime (c : DRegime) : Foot.foot c = [] := rfl
instance : Foot DHarbour where
  foot c := Foot.foot c.forecast ++ Foot.foot c.chart ++ Foot.foot c.fleet ++ Foot.foot c.crew
  own h c := Foot.own h c.forecast ∧ Foot.own h c.chart ∧ Foot.own h c.fleet ∧ Foot.own h c.crew
  loc {h h' c} hok hown hk := by
    have hok : Enc.ok h c.forecast ∧ Enc.ok h c.chart ∧ c.fleet.Ok h ∧ Enc.ok h c.regime ∧ Enc.ok h c.crew := hok
    have hown : Foot.own h c.forecast ∧ Foot.own h c.chart ∧ Foot.own h c.fleet ∧ Foot.own h c.crew := hown
    obtain ⟨k0, w0⟩ := Foot.loc (x := c.forecast) (h' := h') (hok.1) (hown.1) fun b hb => hk b (List.mem_append_left _ (List.mem_append_left _ (List.mem_append_left _ hb)))
    obtain ⟨k1, w1⟩ := Foot.loc (x := c.chart) (h' := h') (hok.2.1) (hown.2.1) fun b hb => hk b (List.mem_append_left _ (List.mem_append_left _ (List.mem_append_right _ hb)))
    obtain ⟨k2, w2⟩ := Foot.loc (x := c.fleet) (h' := h') (hok.2.2.1) (hown.2.2.1) fun b hb => hk b (List.mem_append_left _ (List.mem_append_right _ hb))
    obtain ⟨k3, w3⟩ := Foot.loc (x := c.crew) (h' := h') (hok.2.2.2.2) (hown.2.2.2) fun b hb => hk b (List.mem_append_right _ hb)
    exact ⟨⟨k0, k1, k2, hok.2.2.2.1, k3⟩, ⟨w0, w1, w2, w3⟩⟩
  dom {h c} hown b hb := by
    have hown : Foot.own h c.forecast ∧ Foot.own h c.chart ∧ Foot.own h c.fleet ∧ Foot.own h c.crew := hown
    have hb : b ∈ Foot.foot c.forecast ++ Foot.foot c.chart ++ Foot.foot c.fleet ++ Foot.foot c.crew := hb
    simp only [List.mem_append] at hb
    rcases hb with ((h0 | h1) | h2) | h3
    · exact Foot.dom (hown.1) b h0
    · exact Foot.dom (hown.2.1) b h1
    · exact Foot.dom (hown.2.2.1) b h2
    · exact Foot.dom (hown.2.2.2) b h3
theorem foot_DHarbour (c : DHarbour) : Foot.foot c = Foot.foot c.forecast ++ Foot.foot c.chart ++ Foot.foot c.fleet ++ Foot.foot c.crew := rfl
theorem own_DHarbour {h : Hp} {c : DHarbour} : Foot.own h c = (Foot.own h c.forecast ∧ Foot.own h c.chart ∧ Foot.own h c.fleet ∧ Foot.own h c.crew) := rfl
instance : Foot DBranch where
  foot c := Foot.foot c.plan
  own h c := Foot.own h c.plan
  loc {h h' c} hok hown hk := by
    have hok : I64 c.low ∧ I64 c.high ∧ c.plan.Ok h := hok
    have hown : Foot.own h c.plan := hown
    obtain ⟨k0, w0⟩ := Foot.loc (x := c.plan) (h' := h') (hok.2.2) (hown) fun b hb => hk b hb
    exact ⟨⟨hok.1, hok.2.1, k0⟩, w0⟩
  dom {h c} hown b hb := by
    have hown : Foot.own h c.plan := hown
    have hb : b ∈ Foot.foot c.plan := hb
    exact Foot.dom hown b hb
theorem foot_DBranch (c : DBranch) : Foot.foot c = Foot.foot c.plan := rfl
theorem own_DBranch {h : Hp} {c : DBranch} : Foot.own h c = (Foot.own h c.plan) := rfl
instance : Foot DStrategy where
  foot c := Foot.foot c.branches
  own h c := Foot.own h c.branches
  loc {h h' c} hok hown hk := by
    have hok : I64 c.minute ∧ c.branches.Ok h := hok
    have hown : Foot.own h c.branches := hown
    obtain ⟨k0, w0⟩ := Foot.loc (x := c.branches) (h' := h') (hok.2) (hown) fun b hb => hk b hb
    exact ⟨⟨hok.1, k0⟩, w0⟩
  dom {h c} hown b hb := by
    have hown : Foot.own h c.branches := hown
    have hb : b ∈ Foot.foot c.branches := hb
    exact Foot.dom hown b hb
theorem foot_DStrategy (c : DStrategy) : Foot.foot c = Foot.foot c.branches := rfl
theorem own_DStrategy {h : Hp} {c : DStrategy} : Foot.own h c = (Foot.own h c.branches) := rfl
instance : Foot DWindow := ⟨fun _ => [], fun _ _ => True, fun H _ _ => ⟨H, trivial⟩, fun _ b hb => by cases hb⟩
theorem foot_DWindow (c : DWindow) : Foot.foot c = [] := rfl
instance : Foot DDuty := ⟨fun _ => [], fun _ _ => True, fun H _ _ => ⟨H, trivial⟩, fun _ b hb => by cases hb⟩
theorem foot_DDuty (c : DDuty) : Foot.foot c = [] := rfl
instance : Mk DCall := ⟨fun c k => ⟨k, (k + 1), (k + 2), (k + 3), (k + 4)⟩, fun c => 5⟩
instance : Mk DPassage := ⟨fun c k => ⟨k, (k + 1), mkB (k + 2), (k + 3), (k + 4)⟩, fun c => 5⟩
instance : Mk DOption := ⟨fun c k => ⟨k, (k + 1), (k + 2), Mk.put c.pas (k + 3)⟩, fun c => 3 + Mk.cnt c.pas⟩
instance : Mk DCrew := ⟨fun c k => ⟨k, (k + 1), (k + 2), Mk.put c.moves (k + 3)⟩, fun c => 3 + Mk.cnt c.moves⟩
instance : Mk DPart := ⟨fun c k => ⟨k, (k + 1), (k + 2)⟩, fun c => 3⟩
instance : Mk DTide := ⟨fun c k => ⟨k, Mk.put c.parts (k + 1)⟩, fun c => 1 + Mk.cnt c.parts⟩
instance : Mk DSurge := ⟨fun c k => ⟨k, (k + 1), (k + 2)⟩, fun c => 3⟩
instance : Mk DPoint := ⟨fun c k => ⟨mkT k, mkB (k + 1)⟩, fun c => 2⟩
instance : Mk DSegment := ⟨fun c k => ⟨k, (k + 1), (k + 2), (k + 3), mkB (k + 4)⟩, fun c => 5⟩
instance : Mk DChart := ⟨fun c k => ⟨Mk.put c.points k, Mk.put c.segments (k + (Mk.cnt c.points : Nat))⟩, fun c => Mk.cnt c.points + Mk.cnt c.segments⟩
instance : Mk DShip := ⟨fun c k => ⟨mkT k, (k + 1), (k + 2), (k + 3), (k + 4), mkB (k + 5)⟩, fun c => 6⟩
instance : Mk DRegime := ⟨fun c k => ⟨k, mkB (k + 1)⟩, fun c => 2⟩
instance : Mk DBranch := ⟨fun c k => ⟨k, (k + 1), Mk.put c.plan (k + 2)⟩, fun c => 2 + Mk.cnt c.plan⟩
instance : Mk DStrategy := ⟨fun c k => ⟨k, Mk.put c.branches (k + 1)⟩, fun c => 1 + Mk.cnt c.branches⟩
instance : Mk DWindow := ⟨fun c k => ⟨k, (k + 1)⟩, fun c => 2⟩
instance : Mk DDuty := ⟨fun c k => ⟨k, (k + 1), (k + 2), (k + 3)⟩, fun c => 4⟩
def mkv_DOption (c : DOption) (k : Int) : DOption := { c with pas := Mk.put c.pas k }
def cntv_DOption (c : DOption) : Nat := Mk.cnt c.pas
def mkv_DCrew (c : DCrew) (k : Int) : DCrew := { c with moves := Mk.put c.moves k }
def cntv_DCrew (c : DCrew) : Nat := Mk.cnt c.moves
def mkv_DTide (c : DTide) (k : Int) : DTide := { c with parts := Mk.put c.parts k }
def cntv_DTide (c : DTide) : Nat := Mk.cnt c.parts
def mkv_DForecast (c : DForecast) (k : Int) : DForecast := { c with tide := mkv_DTide c.tide k, surges := Mk.put c.surges (k + (cntv_DTide c.tide : Nat)) }
def cntv_DForecast (c : DForecast) : Nat := cntv_DTide c.tide + Mk.cnt c.surges
def mkv_DChart (c : DChart) (k : Int) : DChart := { c with points := Mk.put c.points k, segments := Mk.put c.segments (k + (Mk.cnt c.points : Nat)) }
def cntv_DChart (c : DChart) : Nat := Mk.cnt c.points + Mk.cnt c.segments
def mkv_DHarbour (c : DHarbour) (k : Int) : DHarbour := { c with forecast := mkv_DForecast c.forecast k, chart := mkv_DChart c.chart (k + (cntv_DForecast c.forecast : Nat)), fleet := Mk.put c.fleet (k + (cntv_DForecast c.forecast : Nat) + (cntv_DChart c.chart : Nat)), crew := mkv_DCrew c.crew (k + (cntv_DForecast c.forecast : Nat) + (cntv_DChart c.chart : Nat) + (Mk.cnt c.fleet : Nat)) }
def cntv_DHarbour (c : DHarbour) : Nat := cntv_DForecast c.forecast + cntv_DChart c.chart + Mk.cnt c.fleet + cntv_DCrew c.crew
def mkv_DBranch (c : DBranch) (k : Int) : DBranch := { c with plan := Mk.put c.plan k }
def cntv_DBranch (c : DBranch) : Nat := Mk.cnt c.plan
def mkv_DStrategy (c : DStrategy) (k : Int) : DStrategy := { c with branches := Mk.put c.branches k }
def cntv_DStrategy (c : DStrategy) : Nat := Mk.cnt c.branches
end Go.SL
