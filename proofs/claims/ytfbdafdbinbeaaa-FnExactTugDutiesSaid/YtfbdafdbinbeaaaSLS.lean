/- Plain theorems about the model: a symbolic state, its evaluation and its soundness. No condition; nothing of the program is named. -/
import Derived.Test.YtfbdafdbinbeaaaSLR
set_option linter.unusedVariables false
set_option linter.unusedSimpArgs false
namespace Go.SL
open Go Go.RowKit
theorem cnt_szS {α β : Type} [Mk α] [Con α β] [Sz β] [MkSz α] (s : Sl α) : Mk.cnt s ≤ 6 * Sz.sz (Con.con s) := cnt_sl s
theorem foot_mkv_DOption (c : DOption) (k : Int) : Foot.foot (mkv_DOption c k) = Foot.foot c := by simp only [foot_DOption, mkv_DOption, MkOk.foot]
theorem cntv_mkv_DOption (c : DOption) (k : Int) : cntv_DOption (mkv_DOption c k) = cntv_DOption c := by simp only [cntv_DOption, mkv_DOption, MkOk.cnt]
theorem mkv_idem_DOption (c : DOption) (k : Int) : mkv_DOption (mkv_DOption c k) k = mkv_DOption c k := by simp only [mkv_DOption, MkOk.idem, MkOk.cnt]
theorem cntv_sz_DOption (c : DOption) : cntv_DOption c ≤ 6 * Sz.sz (Con.con c) := by
  have h0 := cnt_szS c.pas
  have he : Sz.sz (Con.con c) = Sz.sz (Con.con c.pas) := rfl
  simp only [cntv_DOption]
  omega
theorem cntv_le_DOption {s : DOption} {c : POption} {n : Nat} (e : Con.con s = c) (h : Sz.sz c ≤ n) : cntv_DOption s ≤ 6 * n := by
  have := cntv_sz_DOption s
  rw [e] at this
  omega
theorem foot_mkv_DCrew (c : DCrew) (k : Int) : Foot.foot (mkv_DCrew c k) = Foot.foot c := by simp only [foot_DCrew, mkv_DCrew, MkOk.foot]
theorem cntv_mkv_DCrew (c : DCrew) (k : Int) : cntv_DCrew (mkv_DCrew c k) = cntv_DCrew c := by simp only [cntv_DCrew, mkv_DCrew, MkOk.cnt]
theorem mkv_idem_DCrew (c : DCrew) (k : Int) : mkv_DCrew (mkv_DCrew c k) k = mkv_DCrew c k := by simp only [mkv_DCrew, MkOk.idem, MkOk.cnt]
theorem cntv_sz_DCrew (c : DCrew) : cntv_DCrew c ≤ 6 * Sz.sz (Con.con c) := by
  have h0 := cnt_szS c.moves
  have he : Sz.sz (Con.con c) = Sz.sz (Con.con c.moves) := rfl
  simp only [cntv_DCrew]
  omega
theorem cntv_le_DCrew {s : DCrew} {c : PCrew} {n : Nat} (e : Con.con s = c) (h : Sz.sz c ≤ n) : cntv_DCrew s ≤ 6 * n := by
  have := cntv_sz_DCrew s
  rw [e] at this
  omega
theorem foot_mkv_DTide (c : DTide) (k : Int) : Foot.foot (mkv_DTide c k) = Foot.foot c := by simp only [foot_DTide, mkv_DTide, MkOk.foot]
theorem cntv_mkv_DTide (c : DTide) (k : Int) : cntv_DTide (mkv_DTide c k) = cntv_DTide c := by simp only [cntv_DTide, mkv_DTide, MkOk.cnt]
theorem mkv_idem_DTide (c : DTide) (k : Int) : mkv_DTide (mkv_DTide c k) k = mkv_DTide c k := by simp only [mkv_DTide, MkOk.idem, MkOk.cnt]
theorem cntv_sz_DTide (c : DTide) : cntv_DTide c ≤ 6 * Sz.sz (Con.con c) := by
  have h0 := cnt_szS c.parts
  have he : Sz.sz (Con.con c) = Sz.sz (Con.con c.parts) := rfl
  simp only [cntv_DTide]
  omega
theorem cntv_le_DTide {s : DTide} {c : PTide} {n : Nat} (e : Con.con s = c) (h : Sz.sz c ≤ n) : cntv_DTide s ≤ 6 * n := by
  have := cntv_sz_DTide s
  rw [e] at this
  omega
theorem foot_mkv_DForecast (c : DForecast) (k : Int) : Foot.foot (mkv_DForecast c k) = Foot.foot c := by simp only [foot_DForecast, mkv_DForecast, MkOk.foot, foot_mkv_DTide]
theorem cntv_mkv_DForecast (c : DForecast) (k : Int) : cntv_DForecast (mkv_DForecast c k) = cntv_DForecast c := by simp only [cntv_DForecast, mkv_DForecast, MkOk.cnt, cntv_mkv_DTide]
theorem mkv_idem_DForecast (c : DForecast) (k : Int) : mkv_DForecast (mkv_DForecast c k) k = mkv_DForecast c k := by simp only [mkv_DForecast, MkOk.idem, MkOk.cnt, mkv_idem_DTide, cntv_mkv_DTide]
theorem cntv_sz_DForecast (c : DForecast) : cntv_DForecast c ≤ 6 * Sz.sz (Con.con c) := by
  have h0 := cntv_sz_DTide c.tide
  have h1 := cnt_szS c.surges
  have he : Sz.sz (Con.con c) = Sz.sz (Con.con c.tide) + Sz.sz (Con.con c.surges) := rfl
  simp only [cntv_DForecast]
  omega
theorem cntv_le_DForecast {s : DForecast} {c : PForecast} {n : Nat} (e : Con.con s = c) (h : Sz.sz c ≤ n) : cntv_DForecast s ≤ 6 * n := by
  have := cntv_sz_DForecast s
  rw [e] at this
  omega
theorem foot_mkv_DChart (c : DChart) (k : Int) : Foot.foot (mkv_DChart c k) = Foot.foot c := by simp only [foot_DChart, mkv_DChart, MkOk.foot]
theorem cntv_mkv_DChart (c : DChart) (k : Int) : cntv_DChart (mkv_DChart c k) = cntv_DChart c := by simp only [cntv_DChart, mkv_DChart, MkOk.cnt]
theorem mkv_idem_DChart (c : DChart) (k : Int) : mkv_DChart (mkv_DChart c k) k = mkv_DChart c k := by simp only [mkv_DChart, MkOk.idem, MkOk.cnt]
theorem cntv_sz_DChart (c : DChart) : cntv_DChart c ≤ 6 * Sz.sz (Con.con c) := by
  have h0 := cnt_szS c.points
  have h1 := cnt_szS c.segments
  have he : Sz.sz (Con.con c) = Sz.sz (Con.con c.points) + Sz.sz (Con.con c.segments) := rfl
  simp only [cntv_DChart]
  omega
theorem cntv_le_DChart {s : DChart} {c : PChart} {n : Nat} (e : Con.con s = c) (h : Sz.sz c ≤ n) : cntv_DChart s ≤ 6 * n := by
  have := cntv_sz_DChart s
  rw [e] at this
  omega
theorem foot_mkv_DHarbour (c : DHarbour) (k : Int) : Foot.foot (mkv_DHarbour c k) = Foot.foot c := by simp only [foot_DHarbour, mkv_DHarbour, MkOk.foot, foot_mkv_DForecast, foot_mkv_DChart, foot_mkv_DCrew]
theorem cntv_mkv_DHarbour (c : DHarbour) (k : Int) : cntv_DHarbour (mkv_DHarbour c k) = cntv_DHarbour c := by simp only [cntv_DHarbour, mkv_DHarbour, MkOk.cnt, cntv_mkv_DForecast, cntv_mkv_DChart, cntv_mkv_DCrew]
theorem mkv_idem_DHarbour (c : DHarbour) (k : Int) : mkv_DHarbour (mkv_DHarbour c k) k = mkv_DHarbour c k := by simp only [mkv_DHarbour, MkOk.idem, MkOk.cnt, mkv_idem_DForecast, cntv_mkv_DForecast, mkv_idem_DChart, cntv_mkv_DChart, mkv_idem_DCrew, cntv_mkv_DCrew]
theorem cntv_sz_DHarbour (c : DHarbour) : cntv_DHarbour c ≤ 6 * Sz.sz (Con.con c) := by
  have h0 := cntv_sz_DForecast c.forecast
  have h1 := cntv_sz_DChart c.chart
  have h2 := cnt_szS c.fleet
  have h3 := cntv_sz_DCrew c.crew
  have he : Sz.sz (Con.con c) = Sz.sz (Con.con c.forecast) + Sz.sz (Con.con c.chart) + Sz.sz (Con.con c.fleet) + Sz.sz (Con.con c.crew) := rfl
  simp only [cntv_DHarbour]
  omega
theorem cntv_le_DHarbour {s : DHarbour} {c : PHarbour} {n : Nat} (e : Con.con s = c) (h : Sz.sz c ≤ n) : cntv_DHarbour s ≤ 6 * n := by
  have := cntv_sz_DHarbour s
  rw [e] at this
  omega
theorem foot_mkv_DBranch (c : DBranch) (k : Int) : Foot.foot (mkv_DBranch c k) = Foot.foot c := by simp only [foot_DBranch, mkv_DBranch, MkOk.foot]
theorem cntv_mkv_DBranch (c : DBranch) (k : Int) : cntv_DBranch (mkv_DBranch c k) = cntv_DBranch c := by simp only [cntv_DBranch, mkv_DBranch, MkOk.cnt]
theorem mkv_idem_DBranch (c : DBranch) (k : Int) : mkv_DBranch (mkv_DBranch c k) k = mkv_DBranch c k := by simp only [mkv_DBranch, MkOk.idem, MkOk.cnt]
theorem cntv_sz_DBranch (c : DBranch) : cntv_DBranch c ≤ 6 * Sz.sz (Con.con c) := by
  have h0 := cnt_szS c.plan
  have he : Sz.sz (Con.con c) = Sz.sz (Con.con c.plan) := rfl
  simp only [cntv_DBranch]
  omega
theorem cntv_le_DBranch {s : DBranch} {c : PBranch} {n : Nat} (e : Con.con s = c) (h : Sz.sz c ≤ n) : cntv_DBranch s ≤ 6 * n := by
  have := cntv_sz_DBranch s
  rw [e] at this
  omega
theorem foot_mkv_DStrategy (c : DStrategy) (k : Int) : Foot.foot (mkv_DStrategy c k) = Foot.foot c := by simp only [foot_DStrategy, mkv_DStrategy, MkOk.foot]
theorem cntv_mkv_DStrategy (c : DStrategy) (k : Int) : cntv_DStrategy (mkv_DStrategy c k) = cntv_DStrategy c := by simp only [cntv_DStrategy, mkv_DStrategy, MkOk.cnt]
theorem mkv_idem_DStrategy (c : DStrategy) (k : Int) : mkv_DStrategy (mkv_DStrategy c k) k = mkv_DStrategy c k := by simp only [mkv_DStrategy, MkOk.idem, MkOk.cnt]
theorem cntv_sz_DStrategy (c : DStrategy) : cntv_DStrategy c ≤ 6 * Sz.sz (Con.con c) := by
  have h0 := cnt_szS c.branches
  have he : Sz.sz (Con.con c) = Sz.sz (Con.con c.branches) := rfl
  simp only [cntv_DStrategy]
  omega
theorem cntv_le_DStrategy {s : DStrategy} {c : PStrategy} {n : Nat} (e : Con.con s = c) (h : Sz.sz c ≤ n) : cntv_DStrategy s ≤ 6 * n := by
  have := cntv_sz_DStrategy s
  rw [e] at this
  omega
end Go.SL
