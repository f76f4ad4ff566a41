/- Plain theorems about the model. -/
import Derived.Test.YtbkaaakphpbmiaaGreatSGBestPlanx7
set_option linter.unusedVariables false
set_option linter.unusedSimpArgs false
set_option maxRecDepth 4000
open Nat renaming reduceAdd → jq, reduceMul → jj, reduceBEq → jy, reduceLeDiff → jv, reduceLT → jk, reduceEqDiff → jx
open Bool renaming or_eq_false_iff → jp, or_eq_true → jQ, and_eq_true → jJ
open Int renaming toNat_natCast → jW, natCast_nonneg → jY
namespace Go.SL
open Go Go.RowKit
instance:Enc Bool where
 size:=1
 enc n:=[.bool n]
 len _:=rfl
 one n u hu:=by simp only [List.mem_singleton] at hu;subst hu;rfl
 ok _ n:=True
 mono _ H:=H
@[go_sem] theorem znz {b:Bool}:Enc.enc b=[.bool b]:=rfl
theorem znA {h:Hp} {s:Sl Bool} (H:s.Ok h) {i:Nat} (hi:i < s.l.length):h.lds (Option.map (·.add (i * 1)) s.a) 1=some [.bool s.l[i]]:=H.at hi
instance:Foot Bool:=⟨fun _=>[],fun _ _=>True,fun H _ _=>⟨H,trivial⟩,fun _ b hb=>by cases hb⟩
theorem znB {α:Type} [Enc α] {l0:List α} {w w':α} {o:Nat} {new:List Value} (h:zbG o new (Enc.enc w)=Enc.enc w') (hl:o+new.length≤Enc.size α) :
  zbG (l0.length * Enc.size α+o) new ((l0 ++ [w]).flatMap Enc.enc)=(l0 ++ [w']).flatMap Enc.enc:=by
 have e1:(l0.flatMap Enc.enc).length=l0.length * Enc.size α:=ziq Enc.len _
 have e2:=Enc.len w
 simp only [List.flatMap_append,List.flatMap_cons,List.flatMap_nil,List.append_nil]
 rw [← h]
 unfold zbG
 rw [List.take_append,List.drop_append,e1]
 rw [List.take_of_length_le (by omega),List.drop_of_length_le (by omega)]
 rw [show l0.length * Enc.size α+o - l0.length * Enc.size α=o by omega,show l0.length * Enc.size α+o+new.length - l0.length * Enc.size α=o+new.length by omega]
 simp
end Go.SL
