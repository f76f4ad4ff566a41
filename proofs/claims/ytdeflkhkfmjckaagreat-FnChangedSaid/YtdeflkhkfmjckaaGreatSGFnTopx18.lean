/- Plain theorems about the model. -/
import Derived.Test.YtdeflkhkfmjckaaGreatSGFnTopx5
set_option linter.unusedVariables false
set_option linter.unusedSimpArgs false
set_option maxRecDepth 4000
open Nat renaming reduceAdd → jq, reduceMul → jj, reduceBEq → jy, reduceLeDiff → jv, reduceLT → jk, reduceEqDiff → jx
open Bool renaming or_eq_false_iff → jp, or_eq_true → jQ, and_eq_true → jJ
open Int renaming toNat_natCast → jW, natCast_nonneg → jY
namespace Go.SL
open Go Go.RowKit
def vopY (x:Cx) (ops:List Oper) (st:St) (o:Oper) (K:St→Prop):Prop:=vgd ops st o.guard fun g=>g=true∧vopX x st { o with guard:=none } K
def vopN (x:Cx) (ops:List Oper) (st:St) (o:Oper) (K:St→Prop) (m:Nat):Prop:=if m=7 then vopY x ops st o K else vopM x ops st o K m
def zDA (x:Cx) (ops:List Oper) (K:St→Prop):List Nat→List Oper→St→Prop
 | [],l,st=>vops x.P ops l st K
 | m :: ms,o :: l,st=>vopN x ops st o (fun st'=>zDA x ops K ms l st') m
 | _ :: _,[],_=>False
section
variable {x:Cx} {st:St} {Q:Exit→St→Prop}
theorem zNQ {ops:List Oper} {o:Oper} {m:Nat} {K:St→Prop} {QQ:Exit→Act→World→Prop} {a:Act} {W:World} (hd:∀ d',o.dst=some d'→d' < x.N) (h:vopN x ops st o K m) (hC:Conc x.W0 x.h0 x.N st a W) :
  (Region.wanted o (yielded ops.toArray a.tmps)=true∧o.wp x.P a W (fun a' W'=>∃ st',K st'∧Conc x.W0 x.h0 x.N st' a' W') QQ)∨(Region.wanted o (yielded ops.toArray a.tmps)=false∧∃ st',K st'∧Conc x.W0 x.h0 x.N st' (a.put o.dst undef) W):=by
 unfold vopN at h
 split at h
 ·unfold vopY at h
  obtain ⟨g,⟨rfl,h⟩,hg⟩:=zcn (N:=x.N) rfl h
  obtain ⟨ρ,hf,hW,hw⟩:=hC
  have:=hg ρ a hf
  exact .inl ⟨this,(zln (o:={ o with guard:=none }) (QQ:=QQ) hd h ⟨ρ,hf,hW,hw⟩).2⟩
 ·exact zmO hd h hC
theorem zNR {ops:List Oper} {K:St→Prop} {QQ:Exit→Act→World→Prop} (hQ:∀ st' a' W',K st'→Conc x.W0 x.h0 x.N st' a' W'→QQ .normal a' W'):∀ {ms:List Nat} {l:List Oper} {st:St} {a:Act} {W:World},zcZ x.N l=true→zDA x ops K ms l st→Conc x.W0 x.h0 x.N st a W →
  wpList x.P ops.toArray QQ l a W
 | [],l,st,a,W,hd,h,hC=>by
  have h:vops x.P ops l st K:=by cases l <;> exact h
  exact zc0 hd hQ h hC
 | m :: ms,[],st,a,W,hd,h,hC=>h.elim
 | m :: ms,o :: l,st,a,W,hd,h,hC=>by
  simp only [zcZ,jJ] at hd
  have hd1:∀ d',o.dst=some d'→d' < x.N:=by
   intro d' e
   have:=hd.1
   rw [e] at this
   simpa using this
  have h:vopN x ops st o (fun st'=>zDA x ops K ms l st') m:=h
  simp only [wpList]
  rcases zNQ (QQ:=QQ) hd1 h hC with ⟨hw,hwp⟩|⟨hw,st',hk,hC'⟩
  ·rw [if_pos hw]
   left
   refine Oper.wp_mono ?_ hwp
   rintro a' W' ⟨st',hk,hC'⟩
   exact zNR hQ hd.2 hk hC'
  ·rw [if_neg (by simp [hw])]
   exact zNR hQ hd.2 hk hC'
theorem zNS {id:Nat} {ops:List Oper} (n:List Nat) (hd:zcZ x.N ops=true) (h:zDA x ops (fun st'=>Q .normal st') n ops st):T x st (.region id ops.toArray false) Q:=by
 unfold T
 intro a W hC
 exact wp_region_lit (zNR (fun st' a' W' hk hC'=>⟨st',hk,hC'⟩) hd h hC)
theorem zNT {id:Nat} {ops:List Oper} {d:Code} (n:List Nat) (hd:zcZ x.N ops=true) (h:zDA x ops (fun st'=>T x st' d Q) n ops st):T x st (.seq (.region id ops.toArray false) d) Q :=
 zc3 (zNS n hd h)
end
section
variable {x:Cx} {st:St} {o:Oper} {l ops:List Oper} {m:Nat} {ms:List Nat} {K:St→Prop}
@[go_sem] theorem zDB:zDA x ops K [] l st=vops x.P ops l st K:=by cases l <;> rfl
@[go_sem] theorem zDC:zDA x ops K (0 :: ms) (o :: l) st=vop x.P ops st o (fun st'=>zDA x ops K ms l st'):=rfl
@[go_sem] theorem zDD {d:Option Nat} {op:Op} {ty:TypeId} {p:String} {af:Array Edge} {gd:Option (Nat × Bool)}:zDA x ops K (7 :: ms) (⟨d,op,ty,p,af,gd⟩ :: l) st=vgd ops st gd fun g=>g=true∧vopX x st ⟨d,op,ty,p,af,none⟩ (fun st'=>zDA x ops K ms l st'):=rfl
@[congr] theorem zDE {st':St} (h:st=st'):zDA x ops K ms l st=zDA x ops K ms l st':=by rw [h]
end
end Go.SL
