/- Plain theorems about the model. -/
import Derived.Test.YtdeflkhkfmjckaaSGFnInOrderx5
set_option linter.unusedVariables false
set_option linter.unusedSimpArgs false
set_option maxRecDepth 4000
open Nat renaming reduceAdd → jq, reduceMul → jj, reduceBEq → jy, reduceLeDiff → jv, reduceLT → jk, reduceEqDiff → jx
open Bool renaming or_eq_false_iff → jp, or_eq_true → jQ, and_eq_true → jJ
open Int renaming toNat_natCast → jW, natCast_nonneg → jY
namespace Go.SL
open Go Go.RowKit
def vopY (x:Cx) (ops:List Oper) (st:St) (o:Oper) (K:St→Prop):Prop:=vgd ops st o.guard fun g=>g=true∧vopX x st { o with guard:=none } K
def vopN (x:Cx) (ops:List Oper) (st:St) (o:Oper) (K:St→Prop) (m:Nat):Prop:=if m=7 then vopY x ops st o K else vopM x ops st o K m
def zDA (x:Cx) (ops:List Oper) (K:St→Prop):List Nat→List Oper→St→Prop
 | [],l,st=>vops x.P ops l st K
 | m :: ms,o :: l,st=>vopN x ops st o (fun st'=>zDA x ops K ms l st') m
 | _ :: _,[],_=>False
section
variable {x:Cx} {st:St} {Q:Exit→St→Prop}
end
section
variable {x:Cx} {st:St} {o:Oper} {l ops:List Oper} {m:Nat} {ms:List Nat} {K:St→Prop}
@[go_sem] theorem zDB:zDA x ops K [] l st=vops x.P ops l st K:=by cases l <;> rfl
@[go_sem] theorem zDC:zDA x ops K (0 :: ms) (o :: l) st=vop x.P ops st o (fun st'=>zDA x ops K ms l st'):=rfl
@[go_sem] theorem zDD {d:Option Nat} {op:Op} {ty:TypeId} {p:String} {af:Array Edge} {gd:Option (Nat × Bool)}:zDA x ops K (7 :: ms) (⟨d,op,ty,p,af,gd⟩ :: l) st=vgd ops st gd fun g=>g=true∧vopX x st ⟨d,op,ty,p,af,none⟩ (fun st'=>zDA x ops K ms l st'):=rfl
@[congr] theorem zDE {st':St} (h:st=st'):zDA x ops K ms l st=zDA x ops K ms l st':=by rw [h]
end
end Go.SL
