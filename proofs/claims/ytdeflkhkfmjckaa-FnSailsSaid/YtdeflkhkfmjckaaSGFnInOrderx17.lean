/- Plain theorems about the model. -/
import Derived.Test.YtdeflkhkfmjckaaSGFnInOrderx14
set_option linter.unusedVariables false
set_option linter.unusedSimpArgs false
set_option maxRecDepth 4000
open Nat renaming reduceAdd → jq, reduceMul → jj, reduceBEq → jy, reduceLeDiff → jv, reduceLT → jk, reduceEqDiff → jx
open Bool renaming or_eq_false_iff → jp, or_eq_true → jQ, and_eq_true → jJ
open Int renaming toNat_natCast → jW, natCast_nonneg → jY
namespace Go.SL
open Go Go.RowKit
theorem zEC {α:Type} [Enc α] {e:TypeId} {h:Hp} {s:Sl α} {i:Nat} {w:α} (H:RowAt e h s) (hi:i < s.l.length) :
  ∃ g cur,s.a=some ⟨g,0,none⟩∧h g=some (.cells cur e (0,0))∧i * Enc.size α+Enc.size α≤cur.size∧RowAt e (h.ins g (.cells (spl (i * Enc.size α) (Enc.enc w) cur.toList).toArray e (0,0))) ⟨s.a,s.cap,s.l.set i w⟩:=by
 obtain ⟨h1,h2,⟨ha,hl,hc⟩|⟨g,cur,ha,hb,hsz,htk⟩⟩:=H
 ·rw [hl] at hi;cases hi
 ·have hlt:i * Enc.size α+Enc.size α≤s.l.length * Enc.size α:=by
   have:(i+1) * Enc.size α≤s.l.length * Enc.size α:=Nat.mul_le_mul_right _ hi
   rwa [Nat.add_mul,Nat.one_mul] at this
  have hle:s.l.length * Enc.size α≤s.cap * Enc.size α:=Nat.mul_le_mul_right _ h1
  have hcl:cur.toList.length=cur.size:=Array.length_toList
  have hrow:cur.toList=rowL s.l (cur.toList.drop (s.l.length * Enc.size α)):=by
   rw [rowL,← htk,List.take_append_drop]
  have hsp:spl (i * Enc.size α) (Enc.enc w) cur.toList=rowL (s.l.set i w) (cur.toList.drop (s.l.length * Enc.size α)):=by
   conv=>lhs;rw [hrow]
   exact zlN hi
  have hlen:(spl (i * Enc.size α) (Enc.enc w) cur.toList).length=cur.toList.length:=zlI (by rw [Enc.len];omega)
  refine ⟨g,cur,ha,hb,by omega,by rw [List.length_set];exact h1,h2,.inr ⟨g,_,ha,Hp.ins_same,?_,?_⟩⟩
  ·rw [List.size_toArray,hlen];omega
  ·show ((spl (i * Enc.size α) (Enc.enc w) cur.toList).toArray.toList).take ((s.l.set i w).length * Enc.size α)=(s.l.set i w).flatMap Enc.enc
   rw [List.toList_toArray,hsp,rowL,List.take_left']
   rw [ziq Enc.len]
theorem zED {x:Cx} {st:St} {KH:Hp→Prop} {t:TypeId} {b off:Nat} {us:List Value} {cur:Array Value} {e:TypeId} (ht:hasT x.P t=true) (hs:szT x.P t=us.length) (h1:us.all Value.oneCell'=true) (hb:st.h b=some (.cells cur e (0,0))) (hown:x.h0 b=none∨x.W0.own b) (hle:off+us.length≤cur.size)
  (hk:KH (st.h.ins b (.cells (spl off us cur.toList).toArray e (0,0)))):zlk x st t (.c (.v (.pointer (some ⟨b,off,none⟩)))) (.g (us.map SC.v)) KH:=by
 unfold zlk
 have hc:SV.cells (.g (us.map SC.v))=us.map SC.v:=rfl
 have hm:(us.map SC.v).map (·.val)=us:=by rw [List.map_map];exact List.map_id' us
 refine ⟨ht,?_,?_,?_,b,off,cur,e,rfl,hb,hown,by rw [hs];exact hle,?_⟩
 ·rw [show (SV.g (us.map SC.v)).plain=(us.map SC.v).all zb7 from rfl,List.all_map];exact List.all_eq_true.2 fun _ _=>rfl
 ·rw [hc,List.all_map];exact h1
 ·rw [hc,List.length_map,hs]
 ·rw [hc,hm];exact hk
end Go.SL
