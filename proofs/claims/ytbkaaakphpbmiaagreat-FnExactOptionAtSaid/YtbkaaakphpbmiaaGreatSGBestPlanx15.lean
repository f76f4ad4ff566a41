/- Plain theorems about the model. -/
import Derived.Test.YtbkaaakphpbmiaaGreatSGBestPlanx11
import Derived.Test.YtbkaaakphpbmiaaGreatSGBestPlanx13
import Derived.Test.YtbkaaakphpbmiaaGreatSGBestPlanx4
import Derived.Test.YtbkaaakphpbmiaaGreatSGBestPlanx7
set_option linter.unusedVariables false
set_option linter.unusedSimpArgs false
set_option maxRecDepth 4000
open Nat renaming reduceAdd → jq, reduceMul → jj, reduceBEq → jy, reduceLeDiff → jv, reduceLT → jk, reduceEqDiff → jx
open Bool renaming or_eq_false_iff → jp, or_eq_true → jQ, and_eq_true → jJ
open Int renaming toNat_natCast → jW, natCast_nonneg → jY
namespace Go.SL
open Go Go.RowKit
section
variable {x:Cx} {st:St} {Q Q':Exit→St→Prop}
theorem znN {c:Code} (hq:∀ e st,Q e st→Q' e st) (h:T x st c Q):T x st c Q':=by
 unfold T at *
 intro a W hC
 refine Code.wp_mono ?_ (h a W hC)
 rintro e a' W' ⟨st',h1,h2⟩
 exact ⟨st',hq e st' h1,h2⟩
theorem znO {ι:Type} {c d:Code} (S:ι→St) (ok:ι→Prop) (h:T x st c (zc1 (fun st'=>∃ i,ok i∧st'.le (S i)) Q)) (hr:∀ i,ok i→T x (S i) d Q):T x st c (zc1 (fun st'=>T x st' d Q) Q):=by
 refine znN (fun e st' hq=>?_) h
 cases e with
 | normal =>
  obtain ⟨i,h1,h2⟩:=hq
  exact zdc h2 (hr i h1)
 | _=>exact hq
end
open Go Go.RowKit
section
variable (both:Nat→Nat→Bool)
def znP (who:List Nat) (c:Nat):Bool:=decide (∀ k,k < who.length→who.getD k 0=c→both who.length k=true)
def znQ:List Nat→Nat
 | []=>0
 | c :: l=>max (c+1) (znQ l)
def znR (most:Nat):Nat→List Nat→Option (List Nat)
 | 0,who=>some who
 | f+1,who=>(List.range (min (znQ who+1) most)).findSome? fun c=>if znP both who c=true then znR most f (who ++ [c]) else none
def CovOn (s:Nat→Prop) (m:Nat):Prop:=∃ g:Nat→Nat,(∀ i,s i→g i < m)∧∀ i k,s i→s k→k < i→g i=g k→both i k=true
end
variable {both:Nat→Nat→Bool}
theorem znS (l:List Nat) (c:Nat):znQ (l ++ [c])=max (znQ l) (c+1):=by
 induction l with
 | nil=>simp [znQ]
 | cons d l ih=>simp only [List.cons_append,znQ,ih];omega
theorem znT {l:List Nat} {c:Nat} (h:c ∈ l):c < znQ l:=by
 induction l with
 | nil=>cases h
 | cons d l ih =>
  unfold znQ
  rcases List.mem_cons.1 h with rfl|h
  ·omega
  ·have:=ih h;omega
def WhoOk (both:Nat→Nat→Bool) (most:Nat) (who:List Nat):Prop:=(∀ i (hi:i < who.length),who[i] < most)∧∀ i k (hi:i < who.length) (hk:k < who.length),k < i→who[i]=who[k]→both i k=true
theorem WhoOk.snoc {most:Nat} {who:List Nat} {c:Nat} (H:WhoOk both most who) (hc:c < most) (hf:znP both who c=true):WhoOk both most (who ++ [c]):=by
 have hf:=of_decide_eq_true hf
 refine ⟨fun i hi=>?_,fun i k hi hk hki he=>?_⟩
 ·rw [List.getElem_append];split
  ·exact H.1 i _
  ·simpa using hc
 ·rw [List.length_append,List.length_singleton] at hi hk
  have hk':k < who.length:=by omega
  rw [List.getElem_append_left hk'] at he
  by_cases hi':i < who.length
  ·rw [List.getElem_append_left hi'] at he
   exact H.2 i k hi' hk' hki he
  ·have:i=who.length:=by omega
   subst this
   rw [List.getElem_append_right (Nat.le_refl _)] at he
   simp only [Nat.sub_self,List.getElem_cons_zero] at he
   exact hf k hk' (by simp [List.getD_eq_getElem?_getD,hk',he])
theorem znU {most:Nat}:∀ {f:Nat} {who w:List Nat},WhoOk both most who→znR both most f who=some w→WhoOk both most w∧w.length=who.length+f
 | 0,who,w,H,h=>by simp only [znR,Option.some.injEq] at h;subst h;exact ⟨H,rfl⟩
 | f+1,who,w,H,h=>by
  unfold znR at h
  obtain ⟨c,hc,h⟩:=List.exists_of_findSome?_eq_some h
  have hc:=List.mem_range.1 hc
  split at h
  ·rename_i hf
   obtain ⟨h1,h2⟩:=znU (H.snoc (by omega) hf) h
   exact ⟨h1,by rw [h2,List.length_append,List.length_singleton];omega⟩
  ·cases h
theorem znV:∀ {m:Nat} {l:List Nat},l.Nodup→(∀ x ∈ l,x < m)→l.length≤m
 | 0,l,_,h=>by cases l with
  | nil=>exact Nat.le_refl _
  | cons x l=>exact absurd (h x (List.mem_cons_self ..)) (Nat.not_lt_zero _)
 | m+1,l,hn,h=>by
  have h1:(l.erase m).length≤m:=znV (hn.erase m) fun x hx=>by
   have hx1:=h x (List.mem_of_mem_erase hx)
   have hne:x ≠ m:=fun e=>by subst e;exact absurd hx (by rw [hn.mem_erase_iff];simp)
   omega
  by_cases hm:m ∈ l
  ·rw [List.length_erase_of_mem hm] at h1;omega
  ·rw [List.erase_of_not_mem hm] at h1;omega
theorem znW {n most:Nat} {g:Nat→Nat} (hg:∀ i,i < n→g i < most) (hb:∀ i k,k < i→i < n→g i=g k→both i k=true) :
  ∀ {f:Nat} {who:List Nat} {vals:List Nat},who.length+f=n→vals.Nodup→(∀ x ∈ vals,x < most)→znQ who=vals.length→(∀ i (hi:i < who.length),∃ h:who[i] < vals.length,g i=vals[who[i]])→(znR both most f who).isSome=true
 | 0,who,vals,_,_,_,_,_=>rfl
 | f+1,who,vals,hn,hnd,hv,hu,hw=>by
  unfold znR
  rw [Option.isSome_iff_ne_none]
  intro hnone
  rw [List.findSome?_eq_none_iff] at hnone
  have hlen:=znV hnd hv
  have hgm:=hg who.length (by omega)
  by_cases hm:g who.length ∈ vals
  ·obtain ⟨c,hc,he⟩:=List.getElem_of_mem hm
   have hcr:c ∈ List.range (min (znQ who+1) most):=List.mem_range.2 (by omega)
   have hfit:znP both who c=true:=decide_eq_true fun k hk hkc=>by
    obtain ⟨h1,h2⟩:=hw k hk
    have e:who[k]=c:=by simpa [List.getD_eq_getElem?_getD,hk] using hkc
    refine hb _ _ hk (by omega) ?_
    rw [h2,← he];congr 1;exact e.symm
   have:=hnone c hcr
   rw [if_pos hfit] at this
   have ih:=znW (most:=most) hg hb (f:=f) (who:=who ++ [c]) (vals:=vals) (by rw [List.length_append,List.length_singleton];omega) hnd hv (by rw [znS];omega) (fun i hi=>by
    by_cases hi':i < who.length
    ·rw [List.getElem_append_left hi'];exact hw i hi'
    ·have:i=who.length:=by rw [List.length_append,List.length_singleton] at hi;omega
     subst this
     simp only [List.getElem_append_right (Nat.le_refl _),Nat.sub_self,List.getElem_cons_zero]
     exact ⟨hc,he.symm⟩)
   rw [this] at ih;cases ih
  ·have hnd':(vals ++ [g who.length]).Nodup:=by
    rw [List.nodup_append]
    exact ⟨hnd,(by simp),fun a ha b hb'=>by rw [List.mem_singleton.1 hb'];exact fun e=>hm (by rw [← e];exact ha)⟩
   have hv':∀ x ∈ vals ++ [g who.length],x < most:=fun x hx=>by
    rcases List.mem_append.1 hx with hx|hx
    ·exact hv x hx
    ·rw [List.mem_singleton.1 hx];exact hgm
   have hlen':=znV hnd' hv'
   rw [List.length_append,List.length_singleton] at hlen'
   have hcr:vals.length ∈ List.range (min (znQ who+1) most):=List.mem_range.2 (by omega)
   have hfit:znP both who vals.length=true:=decide_eq_true fun k hk hkc=>by
    obtain ⟨h1,h2⟩:=hw k hk
    have e:who[k]=vals.length:=by simpa [List.getD_eq_getElem?_getD,hk] using hkc
    omega
   have:=hnone _ hcr
   rw [if_pos hfit] at this
   have ih:=znW (most:=most) hg hb (f:=f) (who:=who ++ [vals.length]) (vals:=vals ++ [g who.length]) (by rw [List.length_append,List.length_singleton];omega) hnd' hv' (by rw [znS,List.length_append,List.length_singleton];omega) (fun i hi=>by
    by_cases hi':i < who.length
    ·obtain ⟨h1,h2⟩:=hw i hi'
     simp only [List.getElem_append_left hi']
     exact ⟨by rw [List.length_append];omega,by rw [h2,List.getElem_append_left h1]⟩
    ·have:i=who.length:=by rw [List.length_append,List.length_singleton] at hi;omega
     subst this
     simp only [List.getElem_append_right (Nat.le_refl _),Nat.sub_self,List.getElem_cons_zero]
     exact ⟨by rw [List.length_append,List.length_singleton];omega,trivial⟩)
   rw [this] at ih;cases ih
theorem znX {n most:Nat}:(znR both most n []).isSome=true ↔ CovOn both (fun i=>i < n) most:=by
 constructor
 ·intro h
  obtain ⟨w,hw⟩:=Option.isSome_iff_exists.1 h
  obtain ⟨H,hl⟩:=znU ⟨fun i hi=>absurd hi (Nat.not_lt_zero _),fun i k hi=>absurd hi (Nat.not_lt_zero _)⟩ hw
  simp only [List.length_nil,Nat.zero_add] at hl
  refine ⟨fun i=>w.getD i 0,fun i hi=>?_,fun i k hi hk hki he=>?_⟩
  ·have hi':i < w.length:=by omega
   simp only [List.getD_eq_getElem?_getD,List.getElem?_eq_getElem hi',Option.getD_some]
   exact H.1 i hi'
  ·have hi':i < w.length:=by omega
   have hk':k < w.length:=by omega
   simp only [List.getD_eq_getElem?_getD,List.getElem?_eq_getElem hi',List.getElem?_eq_getElem hk',Option.getD_some] at he
   exact H.2 i k hi' hk' hki he
 ·rintro ⟨g,hg,hb⟩
  exact znW hg (fun i k hki hi he=>hb i k hi (by omega) hki he) (f:=n) (who:=[]) (vals:=[]) (by simp) List.nodup_nil (fun x hx=>by cases hx) rfl (fun i hi=>absurd hi (Nat.not_lt_zero _))
theorem CovOn.id {s:Nat→Prop} {n:Nat} (h:∀ i,s i→i < n):CovOn both s n:=⟨fun i=>i,h,fun i k _ _ hki he=>by simp only at he;omega⟩
theorem CovOn.mono {s:Nat→Prop} {m m':Nat} (h:m≤m') (H:CovOn both s m):CovOn both s m':=by
 obtain ⟨g,h1,h2⟩:=H
 exact ⟨g,fun i hi=>Nat.lt_of_lt_of_le (h1 i hi) h,h2⟩
theorem CovOn.add {s r q:Nat→Prop} {l m:Nat} (hs:∀ i,s i→i=l∨r i) (hr:∀ i,r i→i < l) (hq:∀ i,r i→q i→both l i=true) (hqq:∀ i k,r i→r k→q i→q k→k < i→both i k=true) (H:CovOn both (fun i=>r i∧¬ q i) m):CovOn both s (1+m):=by
 obtain ⟨g,h1,h2⟩:=H
 refine ⟨fun i=>open Classical in if i=l∨q i then m else g i,fun i hi=>?_,fun i k hi hk hki he=>?_⟩
 ·simp only
  split
  ·omega
  ·rename_i h
   have h:=not_or.1 h
   have:=h1 i ⟨(hs i hi).resolve_left h.1,h.2⟩
   omega
 ·simp only at he
  have nl:k ≠ l:=fun e=>by
   rcases hs i hi with h|h
   ·omega
   ·have:=hr i h;omega
  have rk:=(hs k hk).resolve_left nl
  split at he
  ·rename_i hc
   split at he
   ·rename_i hc2
    have qk:=hc2.resolve_left nl
    rcases hs i hi with rfl|ri
    ·exact hq k rk qk
    ·refine hqq i k ri rk (hc.resolve_left fun e=>?_) qk hki
     subst e;exact absurd (hr i ri) (Nat.lt_irrefl _)
   ·rename_i hc2
    have:=h1 k ⟨rk,fun h=>hc2 (.inr h)⟩
    omega
  ·rename_i hc
   have hc:=not_or.1 hc
   have ri:=(hs i hi).resolve_left hc.1
   split at he
   ·have:=h1 i ⟨ri,hc.2⟩;omega
   ·rename_i hc2
    exact h2 i k ⟨ri,hc.2⟩ ⟨rk,fun h=>hc2 (.inr h)⟩ hki he
theorem CovOn.cut {s r:Nat→Prop} {l m:Nat} (hl:s l) (hrs:∀ i,r i→s i) (hr:∀ i,r i→i < l) (H:CovOn both s m) :
  ∃ q:Nat→Prop,0 < m∧(∀ i,r i→q i→both l i=true)∧(∀ i k,r i→r k→q i→q k→k < i→both i k=true)∧CovOn both (fun i=>r i∧¬ q i) (m - 1):=by
 obtain ⟨g,h1,h2⟩:=H
 have hm:=h1 l hl
 refine ⟨fun i=>g i=g l,by omega,fun i ri qi=>h2 l i hl (hrs i ri) (hr i ri) qi.symm,fun i k ri rk qi qk hki=>h2 i k (hrs i ri) (hrs k rk) hki (qi.trans qk.symm),fun i=>if g i=m - 1 then g l else g i,fun i hi=>?_,fun i k hi hk hki he=>?_⟩
 ·have:=h1 i (hrs i hi.1)
  simp only
  split
  ·rename_i e
   have:=hi.2
   omega
  ·omega
 ·simp only at he
  refine h2 i k (hrs i hi.1) (hrs k hk.1) hki ?_
  have a:=hi.2
  have b:=hk.2
  split at he <;> split at he <;> omega
open Go Go.RowKit
section
variable {α:Type} [Enc α] {e:TypeId} {h h2:Hp} {s:Sl α}
theorem znY {α:Type} {h:Hp} {s:Sl α}:(znC h s).le h:=by
 intro k o hk
 rcases s with ⟨a,cap,l⟩
 cases a with
 | none=>exact hk
 | some a =>
  simp only [znC,Hp.del] at hk
  split at hk
  ·cases hk
  ·exact hk
theorem znZ {α:Type} {h h2:Hp} {s:Sl α} (hle:h.le h2):(znC h s).le (znC h2 s):=by
 intro k o hk
 rcases s with ⟨a,cap,l⟩
 cases a with
 | none=>exact hle k o hk
 | some a =>
  simp only [znC,Hp.del] at hk ⊢
  split at hk
  ·cases hk
  ·rename_i hne;rw [if_neg hne];exact hle k o hk
theorem zn0 {α:Type} {h:Hp} {s:Sl α} {k:Nat} (hk:∀ a,s.a=some a→k ≠ a.block):znC h s k=h k:=znG hk
theorem zZN {α:Type} {h:Hp} {s:Sl α} {a:Addr} (ha:s.a=some a):znC h s a.block=none:=by
 simp only [znC,ha,Hp.del_same]
theorem Pub.drop {β:Type} {hb:Hp} {sz n:Nat} {xs:List Value} {ad:Option Addr} {cap:Nat} {l:List β} (H:Pub hb e sz n xs ad cap h2):znC h2 (Sl.mk ad cap l)=hb:=by
 obtain ⟨h1,h3,h4,⟨ha,hn,hc,rfl⟩|⟨g,cur,rfl,hg,rfl,hsz,htk⟩⟩:=H
 ·subst ha;rfl
 ·funext k
  simp only [znC,Hp.del,Hp.ins]
  split
  ·rename_i e;subst e;exact hg.symm
  ·rfl
def WS (e:TypeId) (h:Hp) (s:Sl α):Prop:=RowAt e h s∧∀ x ∈ s.l,Enc.ok (znC h s) x
theorem WS.ok (hp:0 < Enc.size α) (H:WS e h s):s.Ok h:=H.1.ok hp fun x hx=>Enc.mono znY (H.2 x hx)
theorem RowAt.blk (H:RowAt e h s):∀ a,s.a=some a→a=⟨a.block,0,none⟩:=fun a ha=>by
 obtain ⟨h1,h2⟩:=H.addr a ha
 cases a;simp only at h1 h2;subst h1 h2;rfl
theorem WS.grow (H:WS e h s) (hle:h.le h2):WS e h2 s∧(znC h s).le (znC h2 s):=by
 have hd:=znZ (s:=s) hle
 refine ⟨⟨H.1.keep fun g hg=>?_,fun x hx=>Enc.mono hd (H.2 x hx)⟩,hd⟩
 obtain ⟨h1,h3,⟨ha,_⟩|⟨g',cur,ha,hb,hsz,htk⟩⟩:=H.1
 ·rw [ha] at hg;cases hg
 ·rw [ha] at hg;cases hg
  rw [hb];exact hle _ _ hb
theorem WS.push {x:α} {ad:Option Addr} {cap:Nat} (H:WS e h s) (hx:Enc.ok (znC h s) x) (P:Pub (znC h s) e (Enc.size α) (s.l ++ [x]).length ((s.l ++ [x]).flatMap Enc.enc) ad cap h2) :
  WS e h2 (Sl.mk ad cap (s.l ++ [x]))∧znC h2 (Sl.mk ad cap (s.l ++ [x]))=znC h s∧(∀ g,ad=some ⟨g,0,none⟩→h g=none∨s.a=some ⟨g,0,none⟩)∧∀ k o,h k=some o→s.a ≠ some ⟨k,0,none⟩→h2 k=some o:=by
 have hd:=P.drop (l:=s.l ++ [x])
 obtain ⟨h1,h3,h4⟩:=P.row
 refine ⟨⟨h1,fun y hy=>?_⟩,hd,fun g hg=>?_,fun k o hk hne=>?_⟩
 ·rw [hd]
  rcases List.mem_append.1 hy with hy|hy
  ·exact H.2 y hy
  ·rw [List.mem_singleton.1 hy];exact hx
 ·by_cases e:s.a=some ⟨g,0,none⟩
  ·exact .inr e
  ·left
   have:=h3 g hg
   rw [zn0 (fun a ha e'=>e (by rw [ha,H.1.blk a ha,e']))] at this
   exact this
 ·have hk2:znC h s k=some o:=by
   rw [zn0 (fun a ha e'=>hne (by rw [ha,H.1.blk a ha,e']))];exact hk
  rw [h4 k fun g hg e=>(by subst e;rw [h3 _ hg] at hk2;cases hk2),hk2]
end
theorem zn1 {α β:Type} {F:α→List β} {B:Nat}:∀ {l:List α},(∀ x ∈ l,(F x).length≤B)→(l.flatMap F).length≤l.length * B
 | [],_=>by simp
 | x :: l,h=>by
  rw [List.flatMap_cons,List.length_append,List.length_cons,Nat.add_mul,Nat.one_mul]
  have h1:=h x (List.mem_cons_self ..)
  have h2:=zn1 (l:=l) fun y hy=>h y (List.mem_cons_of_mem _ hy)
  omega
theorem zn2 {β:Type} {F:Nat→List β} {k:Nat}:(List.range (k+1)).flatMap F=(List.range k).flatMap F ++ F k:=by
 rw [List.range_succ,List.flatMap_append];simp
theorem zn3 {a b c d u:Value}:(spl 2 [u] [a,b,c,d]).toArray=#[a,b,u,d]:=rfl
theorem zn4 {a b c d u:Value}:(spl 3 [u] [a,b,c,d]).toArray=#[a,b,c,u]:=rfl
theorem zn5 {n:Nat} {l:List Int} (hn:l.Nodup) (h:∀ x ∈ l,0≤x∧x < n):l.length≤n:=by
 have:(l.map Int.toNat).Nodup:=by
  rw [List.Nodup,List.pairwise_map]
  refine List.Pairwise.imp_of_mem (fun {a b} ha hb hne e=>hne ?_) hn
  have h1:=h a ha
  have h2:=h b hb
  omega
 have h2:=znV (m:=n) this fun x hx=>by
  obtain ⟨y,hy,rfl⟩:=List.mem_map.1 hx
  have:=h y hy
  omega
 rwa [List.length_map] at h2
end Go.SL
