/- Plain theorems about the model. -/
import Derived.Test.YtdejfjdbcggilaaGreatXIsRefusal22
set_option linter.unusedVariables false
set_option linter.unusedSimpArgs false
set_option maxRecDepth 4000
open Nat renaming reduceAdd → jq, reduceMul → jj, reduceBEq → jy, reduceLeDiff → jv, reduceLT → jk, reduceEqDiff → jx
open Bool renaming or_eq_false_iff → jp, or_eq_true → jQ, and_eq_true → jJ
open Int renaming toNat_natCast → jW, natCast_nonneg → jY
namespace Go.SL
open Go Go.RowKit
open Go Go.RowKit
def Sl.fr {α:Type} [Enc α] (s:Sl α) (k:Nat):Sl α:=⟨if s.cap=k then s.a else s.a.map (·.add (k * Enc.size α)),s.cap - k,s.l.drop k⟩
theorem Sl.fr_ok {α:Type} [Enc α] {h:Hp} {s:Sl α} (H:s.Ok h) (k:Nat):(s.fr k).Ok h:=by
 have hln:(s.fr k).l.length=s.l.length - k:=List.length_drop ..
 have h1:=H.1
 refine ⟨by rw [hln];show _≤s.cap - k;omega,fun hne=>?_,fun i x hx=>?_,fun x hx=>H.2.2.2.1 x (List.mem_of_mem_drop hx),by show s.cap - k≤_;have:=H.2.2.2.2;omega⟩
 ·have hs:s.l ≠ []:=fun e=>hne (by show s.l.drop k=[];rw [e,List.drop_nil])
  have:=H.2.1 hs
  show (if s.cap=k then s.a else s.a.map _).isSome=true
  split
  ·exact this
  ·rw [Option.isSome_map];exact this
 ·have hx':(s.l.drop k)[i]?=some x:=hx
  rw [List.getElem?_drop] at hx'
  have:=H.2.2.1 (k+i) x hx'
  have hlt:=(List.getElem?_eq_some_iff.1 hx').1
  have hc:¬ s.cap=k:=by omega
  show h.lds ((if s.cap=k then s.a else s.a.map (·.add (k * Enc.size α))).map (·.add (i * Enc.size α))) _=_
  rw [if_neg hc,Option.map_map]
  have e:((fun x:Addr=>x.add (i * Enc.size α)) ∘ fun x:Addr=>x.add (k * Enc.size α))=fun x:Addr=>x.add ((k+i) * Enc.size α):=by
   funext y;simp only [Function.comp,zir,Nat.add_mul]
  rw [e]
  exact this
theorem zOh {α:Type} [Enc α] {s:Sl α} {k:Nat} (hk:k≤s.l.length):Value.slice (if s.cap=k then s.a else s.a.map (·.add (k * Enc.size α))) (s.l.length - k) (s.cap - k)=(s.fr k).val:=by
 show _=Value.slice _ (s.l.drop k).length _
 rw [List.length_drop];rfl
theorem zOi {α:Type} [Enc α] {s:Sl α} {k:Nat} {hp:Prop} {L:SV→Prop} (hk:k≤s.l.length):zgh hp (k:Int) (s.l.length:Int) s.val (Enc.size α) L=(hp∧L (.c (.v (s.fr k).val))):=by
 rw [zgj,← zOh hk];rfl
end Go.SL
