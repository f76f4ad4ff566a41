/- Plain theorems about the model. -/
import Derived.Test.YtdejfjdbcggilaaGreatXIsRefusal4
set_option linter.unusedVariables false
set_option linter.unusedSimpArgs false
set_option maxRecDepth 4000
open Nat renaming reduceAdd → jq, reduceMul → jj, reduceBEq → jy, reduceLeDiff → jv, reduceLT → jk, reduceEqDiff → jx
open Bool renaming or_eq_false_iff → jp, or_eq_true → jQ, and_eq_true → jJ
open Int renaming toNat_natCast → jW, natCast_nonneg → jY
namespace Go.SL
open Go Go.RowKit
def Sl.to {α:Type} (s:Sl α) (k:Nat):Sl α:=⟨s.a,s.cap,s.l.take k⟩
theorem Sl.to_len {α:Type} {s:Sl α} {k:Nat} (hk:k≤s.l.length):(s.to k).l.length=k:=by show (s.l.take k).length=k;rw [List.length_take];omega
theorem Sl.to_ok {α:Type} [Enc α] {h:Hp} {s:Sl α} (H:s.Ok h) (k:Nat):(s.to k).Ok h:=by
 refine ⟨Nat.le_trans (by show (s.l.take k).length≤_;rw [List.length_take];omega) H.1,fun hne=>H.2.1 fun e=>hne (by show s.l.take k=[];rw [e];exact List.take_nil),fun i x hx=>H.2.2.1 i x ?_,fun x hx=>H.2.2.2.1 x (List.mem_of_mem_take hx),H.2.2.2.2⟩
 have hx:(s.l.take k)[i]?=some x:=hx
 rw [List.getElem?_take] at hx
 split at hx
 ·exact hx
 ·cases hx
theorem Sl.to_get {α:Type} {s:Sl α} {k j:Nat} (hj:j < (s.to k).l.length) (hj':j < s.l.length):(s.to k).l[j]=s.l[j]:=by
 exact List.getElem_take
theorem zx1:(fun x:Addr=>x.add 0)=fun x=>x:=by funext x;simp [Addr.add]
theorem zx2 {α:Type} {a:Option α}:Option.map (fun x=>x) a=a:=by cases a <;> rfl
theorem zx3 {α:Type} {s:Sl α} {k:Nat} (hk:k≤s.l.length):Value.slice s.a k s.cap=(s.to k).val:=by
 show _=Value.slice s.a (s.l.take k).length s.cap
 rw [List.length_take,Nat.min_eq_left hk]
end Go.SL
