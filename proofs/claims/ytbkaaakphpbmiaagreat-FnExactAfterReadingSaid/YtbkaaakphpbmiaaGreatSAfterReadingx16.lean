/- Plain theorems about the model. -/
import Derived.Test.YtbkaaakphpbmiaaGreatSAfterReadingx14
set_option linter.unusedVariables false
set_option linter.unusedSimpArgs false
set_option maxRecDepth 4000
open Nat renaming reduceAdd → jq, reduceMul → jj, reduceBEq → jy, reduceLeDiff → jv, reduceLT → jk, reduceEqDiff → jx
open Bool renaming or_eq_false_iff → jp, or_eq_true → jQ, and_eq_true → jJ
open Int renaming toNat_natCast → jW, natCast_nonneg → jY
namespace Go.SL
open Go Go.RowKit
section
variable {x:Cx} {ops:List Oper} {tk:List Nat} {fuel:Nat} {listed:Array Bool} {st:St} {K:St→Prop}
@[irreducible] def UBr (x:Cx) (ops:List Oper) (tk:List Nat) (fuel:Nat) (listed:Array Bool) (st:St) (K:St→Prop) (j:Nat):Prop :=
 ∀ (D:List TkI),D.map (·.1)=tk.filter (nmv ops)→(∀ t ∈ D,ops[t.1]?=some t.2.1)→Closed ops.toArray listed→(∀ k ∈ tk,listed.getD k false=true) →
  ∀ a W,Conc x.W0 x.h0 x.N st a W→FrD ops.toArray (D.map (·.2)) a→SS x.P ops.toArray tk D listed W→j ∈ Region.ready .any ops.toArray listed →
  wpOp x.P ops.toArray (QN x K) j (fun a' w'=>SS x.P ops.toArray tk D (listed.setIfInBounds j true) w'∧znc x.P ops.toArray (QN x K) (SS x.P ops.toArray tk D) fuel (listed.setIfInBounds j true) a' w') a W
def UBs (x:Cx) (ops:List Oper) (tk:List Nat) (fuel:Nat) (listed:Array Bool) (st:St) (K:St→Prop):List Nat→Prop
 | []=>True
 | j :: l=>UBr x ops tk fuel listed st K j∧UBs x ops tk fuel listed st K l
theorem zn6:∀ {is:List Nat} {j:Nat},UBs x ops tk fuel listed st K is→j ∈ is→UBr x ops tk fuel listed st K j
 | [],j,_,h=>by cases h
 | i :: l,j,H,h=>by
  rcases List.mem_cons.1 h with rfl|h
  ·exact H.1
  ·exact zn6 H.2 h
theorem zn7 (i:Nat) (is:List Nat) (hr:Region.ready .any ops.toArray listed=i :: is) (h:UBs x ops tk fuel listed st K (i :: is)):U x ops tk (fuel+1) listed st K:=by
 unfold U
 intro D hD hop hcl htk a W hC hF hS
 refine ⟨fun h0=>(by rw [hr] at h0;cases h0),fun j hj=>?_⟩
 have hb:=zn6 h (by rw [← hr];exact hj)
 unfold UBr at hb
 exact hb D hD hop hcl htk a W hC hF hS hj
theorem U_br (i m:Nat) (ls:List Nat) {o:Oper} {l:List (Nat × Oper)} (hi:ops[i]?=some o) (hok:(zni ops tk o && (match o.dst with|some d=>decide (d < x.N)|none=>true))=true)
  (hls:znp ops tk (listed.setIfInBounds i true)=ls) (hp:ziW ops ls=some l)
  (h:vopM x ops st o (fun st'=>vre x.P ops st' (l.map (·.2))∧U x ops tk fuel (listed.setIfInBounds i true) st' K) m):UBr x ops tk fuel listed st K i:=by
 subst hls
 have e:(fun st'=>vre x.P ops st' (l.map (·.2))∧U x ops tk fuel (listed.setIfInBounds i true) st' K)=(fun st'=>znq x ops tk (listed.setIfInBounds i true) st'∧U x ops tk fuel (listed.setIfInBounds i true) st' K):=by
  funext st'
  apply propext
  constructor
  ·rintro ⟨h1,h2⟩;exact ⟨⟨l,hp,h1⟩,h2⟩
  ·rintro ⟨⟨l',hp',h1⟩,h2⟩;rw [hp] at hp';cases hp';exact ⟨h1,h2⟩
 rw [e] at h
 simp only [jJ] at hok
 unfold UBr
 unfold U at h
 intro D hD hop hcl htk a W hC hF hS hj
 have hi':ops.toArray[i]?=some o:=by simpa using hi
 have hd:∀ d',o.dst=some d'→d' < x.N:=by
  intro d' e
  have:=hok.2
  rw [e] at this
  simpa using this
 have htk':∀ k ∈ tk,(listed.setIfInBounds i true).getD k false=true:=fun k hk=>zm9 (htk k hk)
 unfold wpOp
 simp only [hi']
 rcases zmO (QQ:=QN x K) hd h hC with ⟨hw,hwp⟩|⟨hw,st',⟨k1,k2⟩,hC'⟩
 ·rw [if_pos hw]
  left
  refine Oper.wp_mono ?_ (ziK hwp)
  rintro a' W' ⟨⟨u,ds,rfl⟩,st',⟨k1,k2⟩,hC'⟩
  have hF':FrD ops.toArray (D.map (·.2)) (Act.put { a with defers:=ds } o.dst u):=FrD.put (FrD.defers hF) (znj hok.1 hD hop)
  have hS':=znr hD hop hC' hF' k1
  exact ⟨hS',k2 D hD hop (hcl.set hj) htk' _ W' hC' hF' hS'⟩
 ·rw [if_neg (by simp [hw])]
  have hF':FrD ops.toArray (D.map (·.2)) (a.put o.dst undef):=hF.put (znj hok.1 hD hop)
  have hS':=znr hD hop hC' hF' k1
  exact ⟨hS',k2 D hD hop (hcl.set hj) htk' _ W hC' hF' hS'⟩
theorem zn8 (r:Nat) {e:TypeId} {sz n:Nat} {xs:List Value} (hr:look r st.p=some (.row e sz n xs)) (h:∀ ad cap h',Pub st.h e sz n xs ad cap h'→U x ops tk fuel listed (st.sub r (.slice ad n cap) h') K):U x ops tk fuel listed st K:=by
 unfold U at *
 intro D hD hop hcl htk a W hC hF hS
 obtain ⟨ad,cap,h',hp,hC'⟩:=hC.pub hr
 exact h ad cap h' hp D hD hop hcl htk a W hC' hF hS
theorem zn9 {α:Type} [Enc α] (r:Nat) {e:TypeId} (l:List α) {sz n:Nat} {xs:List Value} (hr:look r st.p=some (.row e sz n xs)) (hsz:sz=Enc.size α) (hn:n=l.length) (hxs:xs=l.flatMap Enc.enc)
  (h:∀ (s:Sl α) h',s.l=l→RowAt e h' s→(∀ g,s.a=some ⟨g,0,none⟩→st.h g=none)→st.h.le h'→(∀ k,(∀ g,s.a=some ⟨g,0,none⟩→k ≠ g)→h' k=st.h k)→U x ops tk fuel listed (st.sub r s.val h') K):U x ops tk fuel listed st K:=by
 subst hsz hn hxs
 refine zn8 r hr fun ad cap h' H=>?_
 obtain ⟨h1,h2,h3⟩:=H.row
 exact h ⟨ad,cap,l⟩ h' rfl h1 h2 H.le h3
end
theorem U_m {x:Cx} {ops:List Oper} {tk:List Nat} {fuel:Nat} {listed:Array Bool} {st:St} {K:St→Prop} (i:Nat) (is:List Nat) (h:UBs x ops tk fuel listed st K (i :: is)) (hr:Region.ready .any ops.toArray listed=i :: is:=by kernel_rfl):U x ops tk (fuel+1) listed st K:=zn7 i is hr h
theorem U_b {x:Cx} {ops:List Oper} {tk:List Nat} {fuel:Nat} {listed:Array Bool} {st:St} {K:St→Prop} (i m:Nat) (ls:List Nat) {o:Oper} {l:List (Nat × Oper)} (hi:ops[i]?=some o) (hp:ziW ops ls=some l)
  (h:vopM x ops st o (fun st'=>vre x.P ops st' (l.map (·.2))∧U x ops tk fuel (listed.setIfInBounds i true) st' K) m) (hok:(zni ops tk o && (match o.dst with|some d=>decide (d < x.N)|none=>true))=true:=by kernel_rfl)
  (hls:znp ops tk (listed.setIfInBounds i true)=ls:=by kernel_rfl):UBr x ops tk fuel listed st K i:=U_br i m ls hi hok hls hp h
open Go Go.RowKit
def St.leR (l:List Nat) (st st':St):Prop:=leE st.e (renE l st'.e)∧leP st.p (renP l st'.p)∧st'.h=st.h∧st'.wf=true∧l.Nodup∧zlV l.length st'.p=true
theorem Conc.weakenR {W0:Base} {h0:Hp} {N:Nat} {st st':St} {a:Act} {W:World} {l:List Nat} (h:st.leR l st') (hC:Conc W0 h0 N st a W):Conc W0 h0 N st' a W:=by
 obtain ⟨h1,h2,h3,h5,h6,h7⟩:=h
 obtain ⟨ρ,hf,hW,hw⟩:=hC
 have hp:∀ r b,look r st'.p=some b→r < l.length∧look (rn l r) st.p=some (b.ren l):=fun r b hr=>by
  obtain ⟨k1,k2⟩:=zlZ h6 h7 hr
  exact ⟨k1,zdb h2 _ _ k2⟩
 refine ⟨fun r=>ρ (rn l r),⟨hf.1,hf.2.1,fun t c sv hl=>?_⟩,?_,h5⟩
 ·rw [hf.2.2 t c _ (zda h1 t _ (zlW hl)),SV.ren_conc]
 ·rw [h3]
  refine ⟨hW.below,hW.sees,hW.ext,hW.new,fun r b g hr hat=>?_,fun r b hr=>?_,fun r b g hr hat=>?_,fun r b r' b' g hr hr' hat hat'=>?_⟩
  ·exact hW.own (rn l r) _ g (hp r b hr).2 hat
  ·exact PB.ok_ren (hW.priv _ _ (hp r b hr).2)
  ·exact hW.apart _ _ g (hp r b hr).2 hat
  ·exact zlY h6 (hp r b hr).1 (hp r' b' hr').1 (hW.distinct _ _ _ _ g (hp r b hr).2 (hp r' b' hr').2 hat hat')
@[go_sem] theorem zoa {l:List Nat} {st st':St}:st.leR l st'=(leE st.e (renE l st'.e)∧leP st.p (renP l st'.p)∧st'.h=st.h∧st'.wf=true∧l.Nodup∧zlV l.length st'.p=true):=rfl
section
variable {x:Cx} {ops:List Oper} {tk:List Nat} {fuel:Nat} {listed:Array Bool} {st:St} {K:St→Prop} {Q:Exit→St→Prop}
theorem zob {st':St} {c:Code} (l:List Nat) (hle:st.leR l st') (h:T x st' c Q):T x st c Q:=by
 unfold T at *
 exact fun a W hC=>h a W (hC.weakenR hle)
theorem zoc {ι:Type} {c d:Code} (S:ι→St) (ok:ι→Prop) (h:T x st c (zc1 (fun st'=>∃ i l,ok i∧st'.leR l (S i)) Q)) (hr:∀ i,ok i→T x (S i) d Q):T x st c (zc1 (fun st'=>T x st' d Q) Q):=by
 refine znN (fun e st' hq=>?_) h
 cases e with
 | normal =>
  obtain ⟨i,l,h1,h2⟩:=hq
  exact zob l h2 (hr i h1)
 | _=>exact hq
theorem zoe {ι:Type} {c:Code} (S:ι→St) (ok:ι→Prop) (m:ι→Nat) (i0:ι) (h0:ok i0) (l0:List Nat) (hle:st.leR l0 (S i0))
  (hr:∀ i,ok i→T x (S i) c (zc1 (fun st'=>∃ j l,ok j∧m j < m i∧st'.leR l (S j)) Q)):T x st (.loop c) Q:=by
 unfold T at *
 intro a W hC
 refine zdd (fun i a' W'=>ok i∧Conc x.W0 x.h0 x.N (S i) a' W') m ?_ i0 a W ⟨h0,hC.weakenR hle⟩
 rintro i a W ⟨hi,hC⟩
 refine Code.wp_mono ?_ (hr i hi a W hC)
 rintro e a' W' ⟨st',hq,hC'⟩
 cases e with
 | normal =>
  obtain ⟨j,l,hj,hlt,hle⟩:=hq
  exact ⟨j,hlt,hj,hC'.weakenR hle⟩
 | _=>exact ⟨st',hq,hC'⟩
end
section
variable {α:Type} [Enc α] {e:TypeId} {h h2:Hp} {s:Sl α}
theorem RowAt.mem (H:RowAt e h s) {g:Nat} (hg:s.a=some ⟨g,0,none⟩):h g ≠ none:=by
 obtain ⟨h1,h2,⟨ha,hl,hc⟩|⟨g',cur,ha,hb,hsz,htk⟩⟩:=H
 ·rw [ha] at hg;cases hg
 ·rw [ha] at hg;cases hg;rw [hb];exact fun e=>by cases e
end
open Go Go.RowKit
def zof {α:Type} (h:Hp) (b:Nat) (s:Sl α):Hp:=(znC h s).del b
def WB {α:Type} [Enc α] (tb e:TypeId) (h:Hp) (b:Nat) (s:Sl α):Prop :=
 h b=some (.cells #[s.val] tb (0,0))∧RowAt e h s∧s.a ≠ some ⟨b,0,none⟩∧∀ x ∈ s.l,Enc.ok (zof h b s) x
section
variable {α:Type} [Enc α] {tb e:TypeId} {h h2:Hp} {b:Nat} {s:Sl α}
theorem WB.lds (H:WB tb e h b s):h.lds (some ⟨b,0,none⟩) 1=some [s.val]:=zmG (xs:=[s.val]) H.1 rfl (by simp)
theorem zoh (R:RowAt e h s) {k:Nat} (h1:k ≠ b) (h3:s.a ≠ some ⟨k,0,none⟩):zof h b s k=h k:=by
 simp only [zof,Hp.del,if_neg h1]
 exact zn0 fun a ha e=>h3 (by rw [ha,R.blk a ha,e])
theorem WB.grow (H:WB tb e h b s) (hle:h.le h2):WB tb e h2 b s∧(zof h b s).le (zof h2 b s):=by
 have hd:(zof h b s).le (zof h2 b s):=fun k o hk=>by
  simp only [zof,Hp.del] at hk ⊢
  split at hk
  ·cases hk
  ·rename_i hne;rw [if_neg hne];exact znZ hle k o hk
 refine ⟨⟨hle _ _ H.1,H.2.1.keep fun g hg=>?_,H.2.2.1,fun x hx=>Enc.mono hd (H.2.2.2 x hx)⟩,hd⟩
 obtain ⟨h1,h3,⟨ha,_⟩|⟨g',cur,ha,hb,hsz,htk⟩⟩:=H.2.1
 ·rw [ha] at hg;cases hg
 ·rw [ha] at hg;cases hg
  rw [hb];exact hle _ _ hb
theorem WB.push {x:α} {ad:Option Addr} {cap:Nat} (H:WB tb e h b s) (hx:Enc.ok (zof h b s) x) (P:Pub (znC h s) e (Enc.size α) (s.l ++ [x]).length ((s.l ++ [x]).flatMap Enc.enc) ad cap h2) :
  h2 b=some (.cells #[s.val] tb (0,0))∧WB tb e (h2.ins b (.cells #[(Sl.mk ad cap (s.l ++ [x])).val] tb (0,0))) b (Sl.mk ad cap (s.l ++ [x]))∧(zof h b s).le (zof (h2.ins b (.cells #[(Sl.mk ad cap (s.l ++ [x])).val] tb (0,0))) b (Sl.mk ad cap (s.l ++ [x]))) ∧
   (∀ g,ad=some ⟨g,0,none⟩→h g=none∨s.a=some ⟨g,0,none⟩):=by
 have hd:=P.drop (l:=s.l ++ [x])
 obtain ⟨h1,h3,h4⟩:=P.row
 obtain ⟨hb,R,hne,hok⟩:=H
 have hbd:znC h s b=h b:=zn0 fun a ha e=>hne (by rw [ha,R.blk a ha,e])
 have hadb:∀ g,ad=some ⟨g,0,none⟩→g ≠ b:=fun g hg e=>by
  have:=h3 g hg
  rw [e,hbd,hb] at this;cases this
 have h2b:h2 b=some (.cells #[s.val] tb (0,0)):=by rw [h4 b fun g hg e=>hadb g hg e.symm,hbd];exact hb
 have heq:zof (h2.ins b (.cells #[(Sl.mk ad cap (s.l ++ [x])).val] tb (0,0))) b (Sl.mk ad cap (s.l ++ [x]))=zof h b s:=by
  funext k
  simp only [zof,Hp.del]
  split
  ·rfl
  ·rename_i hk
   rw [← hd]
   cases ad with
   | none=>simp only [znC];exact Hp.ins_ne hk
   | some a =>
    simp only [znC,Hp.del]
    split
    ·rfl
    ·exact Hp.ins_ne hk
 refine ⟨h2b,⟨Hp.ins_same,h1.keep fun g hg=>Hp.ins_ne (hadb g hg),fun e=>hadb b e rfl,fun y hy=>?_⟩,by rw [heq];exact Hp.le_refl _,fun g hg=>?_⟩
 ·rw [heq]
  rcases List.mem_append.1 hy with hy|hy
  ·exact hok y hy
  ·rw [List.mem_singleton.1 hy];exact hx
 ·by_cases e:s.a=some ⟨g,0,none⟩
  ·exact .inr e
  ·left
   have:=h3 g hg
   rw [zn0 (fun a ha e'=>e (by rw [ha,R.blk a ha,e']))] at this
   exact this
end
open Go Go.RowKit
theorem WB.mine {α β:Type} [Enc α] [Enc β] [Foot β] {tb e:TypeId} {h h2:Hp} {b:Nat} {s:Sl α} {q:β} (H:WB tb e h b s) (hle:h.le h2) (hok:Enc.ok h2 q) (m:Mine h h2 q):Enc.ok (zof h2 b s) q:=by
 refine (Foot.loc hok m.1 fun g hg o ho=>?_).1
 have hn:=m.2.1 g hg
 rw [zoh (e:=e) (H.grow hle).1.2.1 (fun e=>by rw [e,H.1] at hn;cases hn) (fun e=>H.2.1.mem e hn)]
 exact ho
theorem WS.mine {α β:Type} [Enc α] [Enc β] [Foot β] {e:TypeId} {h h2:Hp} {s:Sl α} {q:β} (H:WS e h s) (hle:h.le h2) (hok:Enc.ok h2 q) (m:Mine h h2 q):Enc.ok (znC h2 s) q:=by
 refine (Foot.loc hok m.1 fun g hg o ho=>?_).1
 have hn:=m.2.1 g hg
 rw [zn0 fun a ha e=>H.1.mem (g:=g) (by rw [ha,H.1.blk a ha,e]) hn]
 exact ho
open Go Go.RowKit
theorem pubF {α β:Type} [Enc α] {e:TypeId} {hk h h2:Hp} {s:Sl α} {sz n:Nat} {xs:List Value} {l:List β} {ad:Option Addr} {cap:Nat} (R:RowAt e h s) (hle:hk.le h) (hf:∀ g,s.a=some ⟨g,0,none⟩→hk g=none) (H:Pub (znC h s) e sz n xs ad cap h2) :
  hk.le h2∧∀ g,ad=some ⟨g,0,none⟩→hk g=none:=by
 obtain ⟨h1,h3,h4,H⟩:=H
 have hd:∀ k o,hk k=some o→znC h s k=some o:=fun k o hko=>by
  rw [zn0 fun a ha e=>?_]
  ·exact hle k o hko
  ·have:=hf k (by rw [ha,R.blk a ha,e]);rw [this] at hko;cases hko
 rcases H with ⟨ha,hn,hc,rfl⟩|⟨g,cur,rfl,hg,rfl,hsz,htk⟩
 ·exact ⟨hd,fun g e=>by rw [ha] at e;cases e⟩
 ·refine ⟨fun k o hko=>?_,fun g' e=>?_⟩
  ·have:=hd k o hko
   rw [Hp.ins_ne (fun e=>by subst e;rw [hg] at this;cases this)];exact this
  ·cases e
   cases hh:hk g with
   | none=>rfl
   | some o=>rw [hd g o hh] at hg;cases hg
end Go.SL
