/- Plain theorems about the model. -/
import Derived.Test.YtbkaaakphpbmiaaGreatSAfterReadingx18
import Derived.Test.YtbkaaakphpbmiaaGreatSAfterReadingx4
import Derived.Test.YtbkaaakphpbmiaaGreatSAfterReadingx7
set_option linter.unusedVariables false
set_option linter.unusedSimpArgs false
set_option maxRecDepth 4000
open Nat renaming reduceAdd → jq, reduceMul → jj, reduceBEq → jy, reduceLeDiff → jv, reduceLT → jk, reduceEqDiff → jx
open Bool renaming or_eq_false_iff → jp, or_eq_true → jQ, and_eq_true → jJ
open Int renaming toNat_natCast → jW, natCast_nonneg → jY
namespace Go.SL
open Go Go.RowKit
def Sl.fr {α:Type} [Enc α] (s:Sl α) (k:Nat):Sl α:=⟨if s.cap=k then s.a else s.a.map (·.add (k * Enc.size α)),s.cap - k,s.l.drop k⟩
theorem Sl.fr_ok {α:Type} [Enc α] {h:Hp} {s:Sl α} (H:s.Ok h) (k:Nat):(s.fr k).Ok h:=by
 have hln:(s.fr k).l.length=s.l.length - k:=List.length_drop ..
 have h1:=H.1
 refine ⟨by rw [hln];show _≤s.cap - k;omega,fun hne=>?_,fun i x hx=>?_,fun x hx=>H.2.2.2.1 x (List.mem_of_mem_drop hx),by show s.cap - k≤_;have:=H.2.2.2.2;omega⟩
 ·have hs:s.l ≠ []:=fun e=>hne (by show s.l.drop k=[];rw [e,List.drop_nil])
  have:=H.2.1 hs
  show (if s.cap=k then s.a else s.a.map _).isSome=true
  split
  ·exact this
  ·rw [Option.isSome_map];exact this
 ·have hx':(s.l.drop k)[i]?=some x:=hx
  rw [List.getElem?_drop] at hx'
  have:=H.2.2.1 (k+i) x hx'
  have hlt:=(List.getElem?_eq_some_iff.1 hx').1
  have hc:¬ s.cap=k:=by omega
  show h.lds ((if s.cap=k then s.a else s.a.map (·.add (k * Enc.size α))).map (·.add (i * Enc.size α))) _=_
  rw [if_neg hc,Option.map_map]
  have e:((fun x:Addr=>x.add (i * Enc.size α)) ∘ fun x:Addr=>x.add (k * Enc.size α))=fun x:Addr=>x.add ((k+i) * Enc.size α):=by
   funext y;simp only [Function.comp,zir,Nat.add_mul]
  rw [e]
  exact this
theorem zok {α:Type} [Enc α] {s:Sl α} {k:Nat} (hk:k≤s.l.length):Value.slice (if s.cap=k then s.a else s.a.map (·.add (k * Enc.size α))) (s.l.length - k) (s.cap - k)=(s.fr k).val:=by
 show _=Value.slice _ (s.l.drop k).length _
 rw [List.length_drop];rfl
theorem zol {α:Type} [Enc α] {s:Sl α} {k:Nat} {hp:Prop} {L:SV→Prop} (hk:k≤s.l.length):zgh hp (k:Int) (s.l.length:Int) s.val (Enc.size α) L=(hp∧L (.c (.v (s.fr k).val))):=by
 rw [zgj,← zok hk];rfl
open Go Go.RowKit Go.ChangeShapes Go.WideShapes Go.Deep
structure U8 where
 n:Int
deriving DecidableEq
instance:Enc U8 where
 size:=1
 enc u:=[.int .u8 u.n]
 len _:=rfl
 one n u hu:=by simp only [List.mem_singleton] at hu;subst hu;rfl
 ok _ u:=0≤u.n∧u.n < 256
 mono _ H:=H
@[go_sem] theorem zom {b:U8}:Enc.enc b=[.int .u8 b.n]:=rfl
def Cu (tc:TypeId) (c:Sl U8) (h:Hp) (b:Nat):Prop:=c.Ok (h.del b)∧∃ (i k:Int),h b=some (.cells #[c.val,.int .i64 i,.int .i64 k] tc (0,0))∧0≤i∧i≤c.l.length
def Cg (tc:TypeId) (c:Sl U8) (h:Hp) (b:Nat) (h':Hp):Prop:=Cu tc c h' b∧(h.del b).le (h'.del b)
theorem zot {h h2:Hp} {b:Nat} (hle:h.le h2):(h.del b).le (h2.del b):=fun q o hq=>by
 simp only [Hp.del] at hq ⊢
 split at hq
 ·cases hq
 ·rename_i hne;rw [if_neg hne];exact hle q o hq
section
variable {tc:TypeId} {c:Sl U8} {h h2 h3:Hp} {b:Nat}
theorem Cu.ne (H:Cu tc c h b):h b ≠ none:=by
 obtain ⟨_,i,k,h1,_⟩:=H
 rw [h1];exact fun e=>by cases e
theorem Cu.grow (H:Cu tc c h b) (hle:h.le h2):Cu tc c h2 b:=by
 obtain ⟨h4,i,k,h1,h5⟩:=H
 exact ⟨h4.mono (zot hle),i,k,hle _ _ h1,h5⟩
theorem Cg.refl (H:Cu tc c h b):Cg tc c h b h:=⟨H,Hp.le_refl _⟩
theorem Cg.trans (H:Cg tc c h b h2) (K:Cg tc c h2 b h3):Cg tc c h b h3:=⟨K.1,Hp.le_trans H.2 K.2⟩
theorem Cg.grow (H:Cg tc c h b h2) (hle:h2.le h3):Cg tc c h b h3:=⟨H.1.grow hle,Hp.le_trans H.2 (zot hle)⟩
theorem Cg.fresh (H:Cg tc c h b h2) {g:Nat} (hg:h2 g=none):h g=none∧g ≠ b:=by
 have hne:g ≠ b:=fun e=>H.1.ne (by rw [← e];exact hg)
 refine ⟨?_,hne⟩
 cases hh:h g with
 | none=>rfl
 | some o =>
  have:=H.2 g o (by rw [Hp.del_ne hne];exact hh)
  rw [Hp.del_ne hne,hg] at this
  cases this
end
theorem Cg.adopt {tc:TypeId} {c:Sl U8} {h h2 h3:Hp} {b:Nat} {α:Type} [Enc α] {e e':TypeId} {s:Sl α} {sz n:Nat} {xs:List Value} {ad:Option Addr} {cap:Nat} (G:Cg tc c h b h2) (H0:c.Ok (h.del b)) (R:RowAt e h2 s) (fr:∀ g,s.a=some ⟨g,0,none⟩→h g=none∧g ≠ b) (P:Pub (znC h2 s) e' sz n xs ad cap h3) :
  Cg tc c h b h3∧znC h2 s b ≠ none:=by
 have hle:(h.del b).le (h3.del b):=fun q o hq=>by
  by_cases e:q=b
  ·subst e;rw [Hp.del_same] at hq;cases hq
  ·rw [Hp.del_ne e] at hq ⊢
   have h1:=G.2 q o (by rw [Hp.del_ne e];exact hq)
   rw [Hp.del_ne e] at h1
   refine P.le q o ?_
   rw [zn0 fun a ha e2=>?_]
   ·exact h1
   ·have:=(fr a.block (by rw [ha];exact congrArg some (R.blk a ha))).1
    rw [← e2,hq] at this;cases this
 obtain ⟨_,i,k,hb,hi⟩:=G.1
 have hd:znC h2 s b=h2 b:=zn0 fun a ha e2=>(fr a.block (by rw [ha];exact congrArg some (R.blk a ha))).2 e2.symm
 exact ⟨⟨⟨H0.mono hle,i,k,P.le _ _ (by rw [hd];exact hb),hi⟩,hle⟩,by rw [hd,hb];exact fun e=>by cases e⟩
open Go Go.RowKit
open Go Go.RowKit
open Go Go.RowKit
theorem Cg.ins {tc:TypeId} {c:Sl U8} {h h2:Hp} {b g:Nat} {o:Obj} (G:Cg tc c h b h2) (H0:c.Ok (h.del b)) (hg:h g=none) (hgb:g ≠ b):Cg tc c h b (h2.ins g o):=by
 have hle:(h.del b).le ((h2.ins g o).del b):=fun q o' hq=>by
  by_cases e:q=b
  ·subst e;rw [Hp.del_same] at hq;cases hq
  ·have h1:=G.2 q o' hq
   rw [Hp.del_ne e] at hq h1 ⊢
   rw [Hp.ins_ne fun e2=>by rw [e2,hg] at hq;cases hq]
   exact h1
 obtain ⟨_,i,k,hb,hi⟩:=G.1
 exact ⟨⟨H0.mono hle,i,k,by rw [Hp.ins_ne (Ne.symm hgb)];exact hb,hi⟩,hle⟩
open Go Go.RowKit
def vopY (x:Cx) (ops:List Oper) (st:St) (o:Oper) (K:St→Prop):Prop:=vgd ops st o.guard fun g=>g=true∧vopX x st { o with guard:=none } K
def vopN (x:Cx) (ops:List Oper) (st:St) (o:Oper) (K:St→Prop) (m:Nat):Prop:=if m=7 then vopY x ops st o K else vopM x ops st o K m
def zDA (x:Cx) (ops:List Oper) (K:St→Prop):List Nat→List Oper→St→Prop
 | [],l,st=>vops x.P ops l st K
 | m :: ms,o :: l,st=>vopN x ops st o (fun st'=>zDA x ops K ms l st') m
 | _ :: _,[],_=>False
section
variable {x:Cx} {st:St} {Q:Exit→St→Prop}
end
section
variable {x:Cx} {st:St} {o:Oper} {l ops:List Oper} {m:Nat} {ms:List Nat} {K:St→Prop}
@[go_sem] theorem zDB:zDA x ops K [] l st=vops x.P ops l st K:=by cases l <;> rfl
@[go_sem] theorem zDC:zDA x ops K (0 :: ms) (o :: l) st=vop x.P ops st o (fun st'=>zDA x ops K ms l st'):=rfl
@[go_sem] theorem zDD {d:Option Nat} {op:Op} {ty:TypeId} {p:String} {af:Array Edge} {gd:Option (Nat × Bool)}:zDA x ops K (7 :: ms) (⟨d,op,ty,p,af,gd⟩ :: l) st=vgd ops st gd fun g=>g=true∧vopX x st ⟨d,op,ty,p,af,none⟩ (fun st'=>zDA x ops K ms l st'):=rfl
@[congr] theorem zDE {st':St} (h:st=st'):zDA x ops K ms l st=zDA x ops K ms l st':=by rw [h]
end
open Go Go.RowKit
theorem zEC {α:Type} [Enc α] {e:TypeId} {h:Hp} {s:Sl α} {i:Nat} {w:α} (H:RowAt e h s) (hi:i < s.l.length) :
  ∃ g cur,s.a=some ⟨g,0,none⟩∧h g=some (.cells cur e (0,0))∧i * Enc.size α+Enc.size α≤cur.size∧RowAt e (h.ins g (.cells (spl (i * Enc.size α) (Enc.enc w) cur.toList).toArray e (0,0))) ⟨s.a,s.cap,s.l.set i w⟩:=by
 obtain ⟨h1,h2,⟨ha,hl,hc⟩|⟨g,cur,ha,hb,hsz,htk⟩⟩:=H
 ·rw [hl] at hi;cases hi
 ·have hlt:i * Enc.size α+Enc.size α≤s.l.length * Enc.size α:=by
   have:(i+1) * Enc.size α≤s.l.length * Enc.size α:=Nat.mul_le_mul_right _ hi
   rwa [Nat.add_mul,Nat.one_mul] at this
  have hle:s.l.length * Enc.size α≤s.cap * Enc.size α:=Nat.mul_le_mul_right _ h1
  have hcl:cur.toList.length=cur.size:=Array.length_toList
  have hrow:cur.toList=rowL s.l (cur.toList.drop (s.l.length * Enc.size α)):=by
   rw [rowL,← htk,List.take_append_drop]
  have hsp:spl (i * Enc.size α) (Enc.enc w) cur.toList=rowL (s.l.set i w) (cur.toList.drop (s.l.length * Enc.size α)):=by
   conv=>lhs;rw [hrow]
   exact zlN hi
  have hlen:(spl (i * Enc.size α) (Enc.enc w) cur.toList).length=cur.toList.length:=zlI (by rw [Enc.len];omega)
  refine ⟨g,cur,ha,hb,by omega,by rw [List.length_set];exact h1,h2,.inr ⟨g,_,ha,Hp.ins_same,?_,?_⟩⟩
  ·rw [List.size_toArray,hlen];omega
  ·show ((spl (i * Enc.size α) (Enc.enc w) cur.toList).toArray.toList).take ((s.l.set i w).length * Enc.size α)=(s.l.set i w).flatMap Enc.enc
   rw [List.toList_toArray,hsp,rowL,List.take_left']
   rw [ziq Enc.len]
theorem zED {x:Cx} {st:St} {KH:Hp→Prop} {t:TypeId} {b off:Nat} {us:List Value} {cur:Array Value} {e:TypeId} (ht:hasT x.P t=true) (hs:szT x.P t=us.length) (h1:us.all Value.oneCell'=true) (hb:st.h b=some (.cells cur e (0,0))) (hown:x.h0 b=none∨x.W0.own b) (hle:off+us.length≤cur.size)
  (hk:KH (st.h.ins b (.cells (spl off us cur.toList).toArray e (0,0)))):zlk x st t (.c (.v (.pointer (some ⟨b,off,none⟩)))) (.g (us.map SC.v)) KH:=by
 unfold zlk
 have hc:SV.cells (.g (us.map SC.v))=us.map SC.v:=rfl
 have hm:(us.map SC.v).map (·.val)=us:=by rw [List.map_map];exact List.map_id' us
 refine ⟨ht,?_,?_,?_,b,off,cur,e,rfl,hb,hown,by rw [hs];exact hle,?_⟩
 ·rw [show (SV.g (us.map SC.v)).plain=(us.map SC.v).all zb7 from rfl,List.all_map];exact List.all_eq_true.2 fun _ _=>rfl
 ·rw [hc,List.all_map];exact h1
 ·rw [hc,List.length_map,hs]
 ·rw [hc,hm];exact hk
end Go.SL
