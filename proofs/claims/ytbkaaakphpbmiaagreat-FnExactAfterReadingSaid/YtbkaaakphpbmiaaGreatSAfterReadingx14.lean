/- Plain theorems about the model. -/
import Derived.Test.YtbkaaakphpbmiaaGreatSAfterReadingx10
import Derived.Test.YtbkaaakphpbmiaaGreatSAfterReadingx12
import Derived.Test.YtbkaaakphpbmiaaGreatSAfterReadingx4
import Derived.Test.YtbkaaakphpbmiaaGreatSAfterReadingx7
set_option linter.unusedVariables false
set_option linter.unusedSimpArgs false
set_option maxRecDepth 4000
open Nat renaming reduceAdd → jq, reduceMul → jj, reduceBEq → jy, reduceLeDiff → jv, reduceLT → jk, reduceEqDiff → jx
open Bool renaming or_eq_false_iff → jp, or_eq_true → jQ, and_eq_true → jJ
open Int renaming toNat_natCast → jW, natCast_nonneg → jY
namespace Go.SL
open Go Go.RowKit
section
variable {x:Cx} {st:St} {Q Q':Exit→St→Prop}
theorem znN {c:Code} (hq:∀ e st,Q e st→Q' e st) (h:T x st c Q):T x st c Q':=by
 unfold T at *
 intro a W hC
 refine Code.wp_mono ?_ (h a W hC)
 rintro e a' W' ⟨st',h1,h2⟩
 exact ⟨st',hq e st' h1,h2⟩
end
open Go Go.RowKit
section
variable (both:Nat→Nat→Bool)
def CovOn (s:Nat→Prop) (m:Nat):Prop:=∃ g:Nat→Nat,(∀ i,s i→g i < m)∧∀ i k,s i→s k→k < i→g i=g k→both i k=true
end
variable {both:Nat→Nat→Bool}
theorem CovOn.id {s:Nat→Prop} {n:Nat} (h:∀ i,s i→i < n):CovOn both s n:=⟨fun i=>i,h,fun i k _ _ hki he=>by simp only at he;omega⟩
theorem CovOn.mono {s:Nat→Prop} {m m':Nat} (h:m≤m') (H:CovOn both s m):CovOn both s m':=by
 obtain ⟨g,h1,h2⟩:=H
 exact ⟨g,fun i hi=>Nat.lt_of_lt_of_le (h1 i hi) h,h2⟩
theorem CovOn.add {s r q:Nat→Prop} {l m:Nat} (hs:∀ i,s i→i=l∨r i) (hr:∀ i,r i→i < l) (hq:∀ i,r i→q i→both l i=true) (hqq:∀ i k,r i→r k→q i→q k→k < i→both i k=true) (H:CovOn both (fun i=>r i∧¬ q i) m):CovOn both s (1+m):=by
 obtain ⟨g,h1,h2⟩:=H
 refine ⟨fun i=>open Classical in if i=l∨q i then m else g i,fun i hi=>?_,fun i k hi hk hki he=>?_⟩
 ·simp only
  split
  ·omega
  ·rename_i h
   have h:=not_or.1 h
   have:=h1 i ⟨(hs i hi).resolve_left h.1,h.2⟩
   omega
 ·simp only at he
  have nl:k ≠ l:=fun e=>by
   rcases hs i hi with h|h
   ·omega
   ·have:=hr i h;omega
  have rk:=(hs k hk).resolve_left nl
  split at he
  ·rename_i hc
   split at he
   ·rename_i hc2
    have qk:=hc2.resolve_left nl
    rcases hs i hi with rfl|ri
    ·exact hq k rk qk
    ·refine hqq i k ri rk (hc.resolve_left fun e=>?_) qk hki
     subst e;exact absurd (hr i ri) (Nat.lt_irrefl _)
   ·rename_i hc2
    have:=h1 k ⟨rk,fun h=>hc2 (.inr h)⟩
    omega
  ·rename_i hc
   have hc:=not_or.1 hc
   have ri:=(hs i hi).resolve_left hc.1
   split at he
   ·have:=h1 i ⟨ri,hc.2⟩;omega
   ·rename_i hc2
    exact h2 i k ⟨ri,hc.2⟩ ⟨rk,fun h=>hc2 (.inr h)⟩ hki he
open Go Go.RowKit
section
variable {α:Type} [Enc α] {e:TypeId} {h h2:Hp} {s:Sl α}
theorem znY {α:Type} {h:Hp} {s:Sl α}:(znC h s).le h:=by
 intro k o hk
 rcases s with ⟨a,cap,l⟩
 cases a with
 | none=>exact hk
 | some a =>
  simp only [znC,Hp.del] at hk
  split at hk
  ·cases hk
  ·exact hk
theorem znZ {α:Type} {h h2:Hp} {s:Sl α} (hle:h.le h2):(znC h s).le (znC h2 s):=by
 intro k o hk
 rcases s with ⟨a,cap,l⟩
 cases a with
 | none=>exact hle k o hk
 | some a =>
  simp only [znC,Hp.del] at hk ⊢
  split at hk
  ·cases hk
  ·rename_i hne;rw [if_neg hne];exact hle k o hk
theorem zn0 {α:Type} {h:Hp} {s:Sl α} {k:Nat} (hk:∀ a,s.a=some a→k ≠ a.block):znC h s k=h k:=znG hk
theorem Pub.drop {β:Type} {hb:Hp} {sz n:Nat} {xs:List Value} {ad:Option Addr} {cap:Nat} {l:List β} (H:Pub hb e sz n xs ad cap h2):znC h2 (Sl.mk ad cap l)=hb:=by
 obtain ⟨h1,h3,h4,⟨ha,hn,hc,rfl⟩|⟨g,cur,rfl,hg,rfl,hsz,htk⟩⟩:=H
 ·subst ha;rfl
 ·funext k
  simp only [znC,Hp.del,Hp.ins]
  split
  ·rename_i e;subst e;exact hg.symm
  ·rfl
def WS (e:TypeId) (h:Hp) (s:Sl α):Prop:=RowAt e h s∧∀ x ∈ s.l,Enc.ok (znC h s) x
theorem WS.ok (hp:0 < Enc.size α) (H:WS e h s):s.Ok h:=H.1.ok hp fun x hx=>Enc.mono znY (H.2 x hx)
theorem RowAt.blk (H:RowAt e h s):∀ a,s.a=some a→a=⟨a.block,0,none⟩:=fun a ha=>by
 obtain ⟨h1,h2⟩:=H.addr a ha
 cases a;simp only at h1 h2;subst h1 h2;rfl
theorem WS.grow (H:WS e h s) (hle:h.le h2):WS e h2 s∧(znC h s).le (znC h2 s):=by
 have hd:=znZ (s:=s) hle
 refine ⟨⟨H.1.keep fun g hg=>?_,fun x hx=>Enc.mono hd (H.2 x hx)⟩,hd⟩
 obtain ⟨h1,h3,⟨ha,_⟩|⟨g',cur,ha,hb,hsz,htk⟩⟩:=H.1
 ·rw [ha] at hg;cases hg
 ·rw [ha] at hg;cases hg
  rw [hb];exact hle _ _ hb
theorem WS.push {x:α} {ad:Option Addr} {cap:Nat} (H:WS e h s) (hx:Enc.ok (znC h s) x) (P:Pub (znC h s) e (Enc.size α) (s.l ++ [x]).length ((s.l ++ [x]).flatMap Enc.enc) ad cap h2) :
  WS e h2 (Sl.mk ad cap (s.l ++ [x]))∧znC h2 (Sl.mk ad cap (s.l ++ [x]))=znC h s∧(∀ g,ad=some ⟨g,0,none⟩→h g=none∨s.a=some ⟨g,0,none⟩)∧∀ k o,h k=some o→s.a ≠ some ⟨k,0,none⟩→h2 k=some o:=by
 have hd:=P.drop (l:=s.l ++ [x])
 obtain ⟨h1,h3,h4⟩:=P.row
 refine ⟨⟨h1,fun y hy=>?_⟩,hd,fun g hg=>?_,fun k o hk hne=>?_⟩
 ·rw [hd]
  rcases List.mem_append.1 hy with hy|hy
  ·exact H.2 y hy
  ·rw [List.mem_singleton.1 hy];exact hx
 ·by_cases e:s.a=some ⟨g,0,none⟩
  ·exact .inr e
  ·left
   have:=h3 g hg
   rw [zn0 (fun a ha e'=>e (by rw [ha,H.1.blk a ha,e']))] at this
   exact this
 ·have hk2:znC h s k=some o:=by
   rw [zn0 (fun a ha e'=>hne (by rw [ha,H.1.blk a ha,e']))];exact hk
  rw [h4 k fun g hg e=>(by subst e;rw [h3 _ hg] at hk2;cases hk2),hk2]
end
end Go.SL
