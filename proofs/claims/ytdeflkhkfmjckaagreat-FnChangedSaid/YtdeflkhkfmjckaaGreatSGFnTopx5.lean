/- Plain theorems about the model. -/
import Derived.Test.YtdeflkhkfmjckaaGreatSGFnTopx4
set_option linter.unusedVariables false
set_option linter.unusedSimpArgs false
set_option maxRecDepth 4000
open Nat renaming reduceAdd → jq, reduceMul → jj, reduceBEq → jy, reduceLeDiff → jv, reduceLT → jk, reduceEqDiff → jx
open Bool renaming or_eq_false_iff → jp, or_eq_true → jQ, and_eq_true → jJ
open Int renaming toNat_natCast → jW, natCast_nonneg → jY
namespace Go.SL
open Go Go.RowKit
section
variable (both:Nat→Nat→Bool)
def znP (who:List Nat) (c:Nat):Bool:=decide (∀ k,k < who.length→who.getD k 0=c→both who.length k=true)
def znQ:List Nat→Nat
 | []=>0
 | c :: l=>max (c+1) (znQ l)
def znR (most:Nat):Nat→List Nat→Option (List Nat)
 | 0,who=>some who
 | f+1,who=>(List.range (min (znQ who+1) most)).findSome? fun c=>if znP both who c=true then znR most f (who ++ [c]) else none
def CovOn (s:Nat→Prop) (m:Nat):Prop:=∃ g:Nat→Nat,(∀ i,s i→g i < m)∧∀ i k,s i→s k→k < i→g i=g k→both i k=true
end
variable {both:Nat→Nat→Bool}
theorem znS (l:List Nat) (c:Nat):znQ (l ++ [c])=max (znQ l) (c+1):=by
 induction l with
 | nil=>simp [znQ]
 | cons d l ih=>simp only [List.cons_append,znQ,ih];omega
theorem znT {l:List Nat} {c:Nat} (h:c ∈ l):c < znQ l:=by
 induction l with
 | nil=>cases h
 | cons d l ih =>
  unfold znQ
  rcases List.mem_cons.1 h with rfl|h
  ·omega
  ·have:=ih h;omega
def WhoOk (both:Nat→Nat→Bool) (most:Nat) (who:List Nat):Prop:=(∀ i (hi:i < who.length),who[i] < most)∧∀ i k (hi:i < who.length) (hk:k < who.length),k < i→who[i]=who[k]→both i k=true
theorem WhoOk.snoc {most:Nat} {who:List Nat} {c:Nat} (H:WhoOk both most who) (hc:c < most) (hf:znP both who c=true):WhoOk both most (who ++ [c]):=by
 have hf:=of_decide_eq_true hf
 refine ⟨fun i hi=>?_,fun i k hi hk hki he=>?_⟩
 ·rw [List.getElem_append];split
  ·exact H.1 i _
  ·simpa using hc
 ·rw [List.length_append,List.length_singleton] at hi hk
  have hk':k < who.length:=by omega
  rw [List.getElem_append_left hk'] at he
  by_cases hi':i < who.length
  ·rw [List.getElem_append_left hi'] at he
   exact H.2 i k hi' hk' hki he
  ·have:i=who.length:=by omega
   subst this
   rw [List.getElem_append_right (Nat.le_refl _)] at he
   simp only [Nat.sub_self,List.getElem_cons_zero] at he
   exact hf k hk' (by simp [List.getD_eq_getElem?_getD,hk',he])
theorem znU {most:Nat}:∀ {f:Nat} {who w:List Nat},WhoOk both most who→znR both most f who=some w→WhoOk both most w∧w.length=who.length+f
 | 0,who,w,H,h=>by simp only [znR,Option.some.injEq] at h;subst h;exact ⟨H,rfl⟩
 | f+1,who,w,H,h=>by
  unfold znR at h
  obtain ⟨c,hc,h⟩:=List.exists_of_findSome?_eq_some h
  have hc:=List.mem_range.1 hc
  split at h
  ·rename_i hf
   obtain ⟨h1,h2⟩:=znU (H.snoc (by omega) hf) h
   exact ⟨h1,by rw [h2,List.length_append,List.length_singleton];omega⟩
  ·cases h
theorem znV:∀ {m:Nat} {l:List Nat},l.Nodup→(∀ x ∈ l,x < m)→l.length≤m
 | 0,l,_,h=>by cases l with
  | nil=>exact Nat.le_refl _
  | cons x l=>exact absurd (h x (List.mem_cons_self ..)) (Nat.not_lt_zero _)
 | m+1,l,hn,h=>by
  have h1:(l.erase m).length≤m:=znV (hn.erase m) fun x hx=>by
   have hx1:=h x (List.mem_of_mem_erase hx)
   have hne:x ≠ m:=fun e=>by subst e;exact absurd hx (by rw [hn.mem_erase_iff];simp)
   omega
  by_cases hm:m ∈ l
  ·rw [List.length_erase_of_mem hm] at h1;omega
  ·rw [List.erase_of_not_mem hm] at h1;omega
theorem znW {n most:Nat} {g:Nat→Nat} (hg:∀ i,i < n→g i < most) (hb:∀ i k,k < i→i < n→g i=g k→both i k=true) :
  ∀ {f:Nat} {who:List Nat} {vals:List Nat},who.length+f=n→vals.Nodup→(∀ x ∈ vals,x < most)→znQ who=vals.length→(∀ i (hi:i < who.length),∃ h:who[i] < vals.length,g i=vals[who[i]])→(znR both most f who).isSome=true
 | 0,who,vals,_,_,_,_,_=>rfl
 | f+1,who,vals,hn,hnd,hv,hu,hw=>by
  unfold znR
  rw [Option.isSome_iff_ne_none]
  intro hnone
  rw [List.findSome?_eq_none_iff] at hnone
  have hlen:=znV hnd hv
  have hgm:=hg who.length (by omega)
  by_cases hm:g who.length ∈ vals
  ·obtain ⟨c,hc,he⟩:=List.getElem_of_mem hm
   have hcr:c ∈ List.range (min (znQ who+1) most):=List.mem_range.2 (by omega)
   have hfit:znP both who c=true:=decide_eq_true fun k hk hkc=>by
    obtain ⟨h1,h2⟩:=hw k hk
    have e:who[k]=c:=by simpa [List.getD_eq_getElem?_getD,hk] using hkc
    refine hb _ _ hk (by omega) ?_
    rw [h2,← he];congr 1;exact e.symm
   have:=hnone c hcr
   rw [if_pos hfit] at this
   have ih:=znW (most:=most) hg hb (f:=f) (who:=who ++ [c]) (vals:=vals) (by rw [List.length_append,List.length_singleton];omega) hnd hv (by rw [znS];omega) (fun i hi=>by
    by_cases hi':i < who.length
    ·rw [List.getElem_append_left hi'];exact hw i hi'
    ·have:i=who.length:=by rw [List.length_append,List.length_singleton] at hi;omega
     subst this
     simp only [List.getElem_append_right (Nat.le_refl _),Nat.sub_self,List.getElem_cons_zero]
     exact ⟨hc,he.symm⟩)
   rw [this] at ih;cases ih
  ·have hnd':(vals ++ [g who.length]).Nodup:=by
    rw [List.nodup_append]
    exact ⟨hnd,(by simp),fun a ha b hb'=>by rw [List.mem_singleton.1 hb'];exact fun e=>hm (by rw [← e];exact ha)⟩
   have hv':∀ x ∈ vals ++ [g who.length],x < most:=fun x hx=>by
    rcases List.mem_append.1 hx with hx|hx
    ·exact hv x hx
    ·rw [List.mem_singleton.1 hx];exact hgm
   have hlen':=znV hnd' hv'
   rw [List.length_append,List.length_singleton] at hlen'
   have hcr:vals.length ∈ List.range (min (znQ who+1) most):=List.mem_range.2 (by omega)
   have hfit:znP both who vals.length=true:=decide_eq_true fun k hk hkc=>by
    obtain ⟨h1,h2⟩:=hw k hk
    have e:who[k]=vals.length:=by simpa [List.getD_eq_getElem?_getD,hk] using hkc
    omega
   have:=hnone _ hcr
   rw [if_pos hfit] at this
   have ih:=znW (most:=most) hg hb (f:=f) (who:=who ++ [vals.length]) (vals:=vals ++ [g who.length]) (by rw [List.length_append,List.length_singleton];omega) hnd' hv' (by rw [znS,List.length_append,List.length_singleton];omega) (fun i hi=>by
    by_cases hi':i < who.length
    ·obtain ⟨h1,h2⟩:=hw i hi'
     simp only [List.getElem_append_left hi']
     exact ⟨by rw [List.length_append];omega,by rw [h2,List.getElem_append_left h1]⟩
    ·have:i=who.length:=by rw [List.length_append,List.length_singleton] at hi;omega
     subst this
     simp only [List.getElem_append_right (Nat.le_refl _),Nat.sub_self,List.getElem_cons_zero]
     exact ⟨by rw [List.length_append,List.length_singleton];omega,trivial⟩)
   rw [this] at ih;cases ih
theorem znX {n most:Nat}:(znR both most n []).isSome=true ↔ CovOn both (fun i=>i < n) most:=by
 constructor
 ·intro h
  obtain ⟨w,hw⟩:=Option.isSome_iff_exists.1 h
  obtain ⟨H,hl⟩:=znU ⟨fun i hi=>absurd hi (Nat.not_lt_zero _),fun i k hi=>absurd hi (Nat.not_lt_zero _)⟩ hw
  simp only [List.length_nil,Nat.zero_add] at hl
  refine ⟨fun i=>w.getD i 0,fun i hi=>?_,fun i k hi hk hki he=>?_⟩
  ·have hi':i < w.length:=by omega
   simp only [List.getD_eq_getElem?_getD,List.getElem?_eq_getElem hi',Option.getD_some]
   exact H.1 i hi'
  ·have hi':i < w.length:=by omega
   have hk':k < w.length:=by omega
   simp only [List.getD_eq_getElem?_getD,List.getElem?_eq_getElem hi',List.getElem?_eq_getElem hk',Option.getD_some] at he
   exact H.2 i k hi' hk' hki he
 ·rintro ⟨g,hg,hb⟩
  exact znW hg (fun i k hki hi he=>hb i k hi (by omega) hki he) (f:=n) (who:=[]) (vals:=[]) (by simp) List.nodup_nil (fun x hx=>by cases hx) rfl (fun i hi=>absurd hi (Nat.not_lt_zero _))
theorem CovOn.id {s:Nat→Prop} {n:Nat} (h:∀ i,s i→i < n):CovOn both s n:=⟨fun i=>i,h,fun i k _ _ hki he=>by simp only at he;omega⟩
theorem CovOn.mono {s:Nat→Prop} {m m':Nat} (h:m≤m') (H:CovOn both s m):CovOn both s m':=by
 obtain ⟨g,h1,h2⟩:=H
 exact ⟨g,fun i hi=>Nat.lt_of_lt_of_le (h1 i hi) h,h2⟩
theorem CovOn.add {s r q:Nat→Prop} {l m:Nat} (hs:∀ i,s i→i=l∨r i) (hr:∀ i,r i→i < l) (hq:∀ i,r i→q i→both l i=true) (hqq:∀ i k,r i→r k→q i→q k→k < i→both i k=true) (H:CovOn both (fun i=>r i∧¬ q i) m):CovOn both s (1+m):=by
 obtain ⟨g,h1,h2⟩:=H
 refine ⟨fun i=>open Classical in if i=l∨q i then m else g i,fun i hi=>?_,fun i k hi hk hki he=>?_⟩
 ·simp only
  split
  ·omega
  ·rename_i h
   have h:=not_or.1 h
   have:=h1 i ⟨(hs i hi).resolve_left h.1,h.2⟩
   omega
 ·simp only at he
  have nl:k ≠ l:=fun e=>by
   rcases hs i hi with h|h
   ·omega
   ·have:=hr i h;omega
  have rk:=(hs k hk).resolve_left nl
  split at he
  ·rename_i hc
   split at he
   ·rename_i hc2
    have qk:=hc2.resolve_left nl
    rcases hs i hi with rfl|ri
    ·exact hq k rk qk
    ·refine hqq i k ri rk (hc.resolve_left fun e=>?_) qk hki
     subst e;exact absurd (hr i ri) (Nat.lt_irrefl _)
   ·rename_i hc2
    have:=h1 k ⟨rk,fun h=>hc2 (.inr h)⟩
    omega
  ·rename_i hc
   have hc:=not_or.1 hc
   have ri:=(hs i hi).resolve_left hc.1
   split at he
   ·have:=h1 i ⟨ri,hc.2⟩;omega
   ·rename_i hc2
    exact h2 i k ⟨ri,hc.2⟩ ⟨rk,fun h=>hc2 (.inr h)⟩ hki he
theorem CovOn.cut {s r:Nat→Prop} {l m:Nat} (hl:s l) (hrs:∀ i,r i→s i) (hr:∀ i,r i→i < l) (H:CovOn both s m) :
  ∃ q:Nat→Prop,0 < m∧(∀ i,r i→q i→both l i=true)∧(∀ i k,r i→r k→q i→q k→k < i→both i k=true)∧CovOn both (fun i=>r i∧¬ q i) (m - 1):=by
 obtain ⟨g,h1,h2⟩:=H
 have hm:=h1 l hl
 refine ⟨fun i=>g i=g l,by omega,fun i ri qi=>h2 l i hl (hrs i ri) (hr i ri) qi.symm,fun i k ri rk qi qk hki=>h2 i k (hrs i ri) (hrs k rk) hki (qi.trans qk.symm),fun i=>if g i=m - 1 then g l else g i,fun i hi=>?_,fun i k hi hk hki he=>?_⟩
 ·have:=h1 i (hrs i hi.1)
  simp only
  split
  ·rename_i e
   have:=hi.2
   omega
  ·omega
 ·simp only at he
  refine h2 i k (hrs i hi.1) (hrs k hk.1) hki ?_
  have a:=hi.2
  have b:=hk.2
  split at he <;> split at he <;> omega
open Go Go.RowKit
section
variable {α:Type} [Enc α] {e:TypeId} {h h2:Hp} {s:Sl α}
theorem znY {α:Type} {h:Hp} {s:Sl α}:(znC h s).le h:=by
 intro k o hk
 rcases s with ⟨a,cap,l⟩
 cases a with
 | none=>exact hk
 | some a =>
  simp only [znC,Hp.del] at hk
  split at hk
  ·cases hk
  ·exact hk
theorem znZ {α:Type} {h h2:Hp} {s:Sl α} (hle:h.le h2):(znC h s).le (znC h2 s):=by
 intro k o hk
 rcases s with ⟨a,cap,l⟩
 cases a with
 | none=>exact hle k o hk
 | some a =>
  simp only [znC,Hp.del] at hk ⊢
  split at hk
  ·cases hk
  ·rename_i hne;rw [if_neg hne];exact hle k o hk
theorem zn0 {α:Type} {h:Hp} {s:Sl α} {k:Nat} (hk:∀ a,s.a=some a→k ≠ a.block):znC h s k=h k:=znG hk
theorem Pub.drop {β:Type} {hb:Hp} {sz n:Nat} {xs:List Value} {ad:Option Addr} {cap:Nat} {l:List β} (H:Pub hb e sz n xs ad cap h2):znC h2 (Sl.mk ad cap l)=hb:=by
 obtain ⟨h1,h3,h4,⟨ha,hn,hc,rfl⟩|⟨g,cur,rfl,hg,rfl,hsz,htk⟩⟩:=H
 ·subst ha;rfl
 ·funext k
  simp only [znC,Hp.del,Hp.ins]
  split
  ·rename_i e;subst e;exact hg.symm
  ·rfl
def WS (e:TypeId) (h:Hp) (s:Sl α):Prop:=RowAt e h s∧∀ x ∈ s.l,Enc.ok (znC h s) x
theorem WS.ok (hp:0 < Enc.size α) (H:WS e h s):s.Ok h:=H.1.ok hp fun x hx=>Enc.mono znY (H.2 x hx)
theorem RowAt.blk (H:RowAt e h s):∀ a,s.a=some a→a=⟨a.block,0,none⟩:=fun a ha=>by
 obtain ⟨h1,h2⟩:=H.addr a ha
 cases a;simp only at h1 h2;subst h1 h2;rfl
theorem WS.grow (H:WS e h s) (hle:h.le h2):WS e h2 s∧(znC h s).le (znC h2 s):=by
 have hd:=znZ (s:=s) hle
 refine ⟨⟨H.1.keep fun g hg=>?_,fun x hx=>Enc.mono hd (H.2 x hx)⟩,hd⟩
 obtain ⟨h1,h3,⟨ha,_⟩|⟨g',cur,ha,hb,hsz,htk⟩⟩:=H.1
 ·rw [ha] at hg;cases hg
 ·rw [ha] at hg;cases hg
  rw [hb];exact hle _ _ hb
theorem WS.push {x:α} {ad:Option Addr} {cap:Nat} (H:WS e h s) (hx:Enc.ok (znC h s) x) (P:Pub (znC h s) e (Enc.size α) (s.l ++ [x]).length ((s.l ++ [x]).flatMap Enc.enc) ad cap h2) :
  WS e h2 (Sl.mk ad cap (s.l ++ [x]))∧znC h2 (Sl.mk ad cap (s.l ++ [x]))=znC h s∧(∀ g,ad=some ⟨g,0,none⟩→h g=none∨s.a=some ⟨g,0,none⟩)∧∀ k o,h k=some o→s.a ≠ some ⟨k,0,none⟩→h2 k=some o:=by
 have hd:=P.drop (l:=s.l ++ [x])
 obtain ⟨h1,h3,h4⟩:=P.row
 refine ⟨⟨h1,fun y hy=>?_⟩,hd,fun g hg=>?_,fun k o hk hne=>?_⟩
 ·rw [hd]
  rcases List.mem_append.1 hy with hy|hy
  ·exact H.2 y hy
  ·rw [List.mem_singleton.1 hy];exact hx
 ·by_cases e:s.a=some ⟨g,0,none⟩
  ·exact .inr e
  ·left
   have:=h3 g hg
   rw [zn0 (fun a ha e'=>e (by rw [ha,H.1.blk a ha,e']))] at this
   exact this
 ·have hk2:znC h s k=some o:=by
   rw [zn0 (fun a ha e'=>hne (by rw [ha,H.1.blk a ha,e']))];exact hk
  rw [h4 k fun g hg e=>(by subst e;rw [h3 _ hg] at hk2;cases hk2),hk2]
end
theorem zn1 {α β:Type} {F:α→List β} {B:Nat}:∀ {l:List α},(∀ x ∈ l,(F x).length≤B)→(l.flatMap F).length≤l.length * B
 | [],_=>by simp
 | x :: l,h=>by
  rw [List.flatMap_cons,List.length_append,List.length_cons,Nat.add_mul,Nat.one_mul]
  have h1:=h x (List.mem_cons_self ..)
  have h2:=zn1 (l:=l) fun y hy=>h y (List.mem_cons_of_mem _ hy)
  omega
theorem zn2 {β:Type} {F:Nat→List β} {k:Nat}:(List.range (k+1)).flatMap F=(List.range k).flatMap F ++ F k:=by
 rw [List.range_succ,List.flatMap_append];simp
theorem zn3 {a b c d u:Value}:(spl 2 [u] [a,b,c,d]).toArray=#[a,b,u,d]:=rfl
theorem zn4 {a b c d u:Value}:(spl 3 [u] [a,b,c,d]).toArray=#[a,b,c,u]:=rfl
theorem zn5 {n:Nat} {l:List Int} (hn:l.Nodup) (h:∀ x ∈ l,0≤x∧x < n):l.length≤n:=by
 have:(l.map Int.toNat).Nodup:=by
  rw [List.Nodup,List.pairwise_map]
  refine List.Pairwise.imp_of_mem (fun {a b} ha hb hne e=>hne ?_) hn
  have h1:=h a ha
  have h2:=h b hb
  omega
 have h2:=znV (m:=n) this fun x hx=>by
  obtain ⟨y,hy,rfl⟩:=List.mem_map.1 hx
  have:=h y hy
  omega
 rwa [List.length_map] at h2
open Go Go.RowKit
section
variable {x:Cx} {ops:List Oper} {tk:List Nat} {fuel:Nat} {listed:Array Bool} {st:St} {K:St→Prop}
@[irreducible] def UBr (x:Cx) (ops:List Oper) (tk:List Nat) (fuel:Nat) (listed:Array Bool) (st:St) (K:St→Prop) (j:Nat):Prop :=
 ∀ (D:List TkI),D.map (·.1)=tk.filter (nmv ops)→(∀ t ∈ D,ops[t.1]?=some t.2.1)→Closed ops.toArray listed→(∀ k ∈ tk,listed.getD k false=true) →
  ∀ a W,Conc x.W0 x.h0 x.N st a W→FrD ops.toArray (D.map (·.2)) a→SS x.P ops.toArray tk D listed W→j ∈ Region.ready .any ops.toArray listed →
  wpOp x.P ops.toArray (QN x K) j (fun a' w'=>SS x.P ops.toArray tk D (listed.setIfInBounds j true) w'∧znc x.P ops.toArray (QN x K) (SS x.P ops.toArray tk D) fuel (listed.setIfInBounds j true) a' w') a W
def UBs (x:Cx) (ops:List Oper) (tk:List Nat) (fuel:Nat) (listed:Array Bool) (st:St) (K:St→Prop):List Nat→Prop
 | []=>True
 | j :: l=>UBr x ops tk fuel listed st K j∧UBs x ops tk fuel listed st K l
theorem zn6:∀ {is:List Nat} {j:Nat},UBs x ops tk fuel listed st K is→j ∈ is→UBr x ops tk fuel listed st K j
 | [],j,_,h=>by cases h
 | i :: l,j,H,h=>by
  rcases List.mem_cons.1 h with rfl|h
  ·exact H.1
  ·exact zn6 H.2 h
theorem zn7 (i:Nat) (is:List Nat) (hr:Region.ready .any ops.toArray listed=i :: is) (h:UBs x ops tk fuel listed st K (i :: is)):U x ops tk (fuel+1) listed st K:=by
 unfold U
 intro D hD hop hcl htk a W hC hF hS
 refine ⟨fun h0=>(by rw [hr] at h0;cases h0),fun j hj=>?_⟩
 have hb:=zn6 h (by rw [← hr];exact hj)
 unfold UBr at hb
 exact hb D hD hop hcl htk a W hC hF hS hj
theorem U_br (i m:Nat) (ls:List Nat) {o:Oper} {l:List (Nat × Oper)} (hi:ops[i]?=some o) (hok:(zni ops tk o && (match o.dst with|some d=>decide (d < x.N)|none=>true))=true)
  (hls:znp ops tk (listed.setIfInBounds i true)=ls) (hp:ziW ops ls=some l)
  (h:vopM x ops st o (fun st'=>vre x.P ops st' (l.map (·.2))∧U x ops tk fuel (listed.setIfInBounds i true) st' K) m):UBr x ops tk fuel listed st K i:=by
 subst hls
 have e:(fun st'=>vre x.P ops st' (l.map (·.2))∧U x ops tk fuel (listed.setIfInBounds i true) st' K)=(fun st'=>znq x ops tk (listed.setIfInBounds i true) st'∧U x ops tk fuel (listed.setIfInBounds i true) st' K):=by
  funext st'
  apply propext
  constructor
  ·rintro ⟨h1,h2⟩;exact ⟨⟨l,hp,h1⟩,h2⟩
  ·rintro ⟨⟨l',hp',h1⟩,h2⟩;rw [hp] at hp';cases hp';exact ⟨h1,h2⟩
 rw [e] at h
 simp only [jJ] at hok
 unfold UBr
 unfold U at h
 intro D hD hop hcl htk a W hC hF hS hj
 have hi':ops.toArray[i]?=some o:=by simpa using hi
 have hd:∀ d',o.dst=some d'→d' < x.N:=by
  intro d' e
  have:=hok.2
  rw [e] at this
  simpa using this
 have htk':∀ k ∈ tk,(listed.setIfInBounds i true).getD k false=true:=fun k hk=>zm9 (htk k hk)
 unfold wpOp
 simp only [hi']
 rcases zmO (QQ:=QN x K) hd h hC with ⟨hw,hwp⟩|⟨hw,st',⟨k1,k2⟩,hC'⟩
 ·rw [if_pos hw]
  left
  refine Oper.wp_mono ?_ (ziK hwp)
  rintro a' W' ⟨⟨u,ds,rfl⟩,st',⟨k1,k2⟩,hC'⟩
  have hF':FrD ops.toArray (D.map (·.2)) (Act.put { a with defers:=ds } o.dst u):=FrD.put (FrD.defers hF) (znj hok.1 hD hop)
  have hS':=znr hD hop hC' hF' k1
  exact ⟨hS',k2 D hD hop (hcl.set hj) htk' _ W' hC' hF' hS'⟩
 ·rw [if_neg (by simp [hw])]
  have hF':FrD ops.toArray (D.map (·.2)) (a.put o.dst undef):=hF.put (znj hok.1 hD hop)
  have hS':=znr hD hop hC' hF' k1
  exact ⟨hS',k2 D hD hop (hcl.set hj) htk' _ W hC' hF' hS'⟩
end
theorem U_m {x:Cx} {ops:List Oper} {tk:List Nat} {fuel:Nat} {listed:Array Bool} {st:St} {K:St→Prop} (i:Nat) (is:List Nat) (h:UBs x ops tk fuel listed st K (i :: is)) (hr:Region.ready .any ops.toArray listed=i :: is:=by kernel_rfl):U x ops tk (fuel+1) listed st K:=zn7 i is hr h
theorem U_b {x:Cx} {ops:List Oper} {tk:List Nat} {fuel:Nat} {listed:Array Bool} {st:St} {K:St→Prop} (i m:Nat) (ls:List Nat) {o:Oper} {l:List (Nat × Oper)} (hi:ops[i]?=some o) (hp:ziW ops ls=some l)
  (h:vopM x ops st o (fun st'=>vre x.P ops st' (l.map (·.2))∧U x ops tk fuel (listed.setIfInBounds i true) st' K) m) (hok:(zni ops tk o && (match o.dst with|some d=>decide (d < x.N)|none=>true))=true:=by kernel_rfl)
  (hls:znp ops tk (listed.setIfInBounds i true)=ls:=by kernel_rfl):UBr x ops tk fuel listed st K i:=U_br i m ls hi hok hls hp h
open Go Go.RowKit
def St.leR (l:List Nat) (st st':St):Prop:=leE st.e (renE l st'.e)∧leP st.p (renP l st'.p)∧st'.h=st.h∧st'.wf=true∧l.Nodup∧zlV l.length st'.p=true
theorem Conc.weakenR {W0:Base} {h0:Hp} {N:Nat} {st st':St} {a:Act} {W:World} {l:List Nat} (h:st.leR l st') (hC:Conc W0 h0 N st a W):Conc W0 h0 N st' a W:=by
 obtain ⟨h1,h2,h3,h5,h6,h7⟩:=h
 obtain ⟨ρ,hf,hW,hw⟩:=hC
 have hp:∀ r b,look r st'.p=some b→r < l.length∧look (rn l r) st.p=some (b.ren l):=fun r b hr=>by
  obtain ⟨k1,k2⟩:=zlZ h6 h7 hr
  exact ⟨k1,zdb h2 _ _ k2⟩
 refine ⟨fun r=>ρ (rn l r),⟨hf.1,hf.2.1,fun t c sv hl=>?_⟩,?_,h5⟩
 ·rw [hf.2.2 t c _ (zda h1 t _ (zlW hl)),SV.ren_conc]
 ·rw [h3]
  refine ⟨hW.below,hW.sees,hW.ext,hW.new,fun r b g hr hat=>?_,fun r b hr=>?_,fun r b g hr hat=>?_,fun r b r' b' g hr hr' hat hat'=>?_⟩
  ·exact hW.own (rn l r) _ g (hp r b hr).2 hat
  ·exact PB.ok_ren (hW.priv _ _ (hp r b hr).2)
  ·exact hW.apart _ _ g (hp r b hr).2 hat
  ·exact zlY h6 (hp r b hr).1 (hp r' b' hr').1 (hW.distinct _ _ _ _ g (hp r b hr).2 (hp r' b' hr').2 hat hat')
@[go_sem] theorem zoa {l:List Nat} {st st':St}:st.leR l st'=(leE st.e (renE l st'.e)∧leP st.p (renP l st'.p)∧st'.h=st.h∧st'.wf=true∧l.Nodup∧zlV l.length st'.p=true):=rfl
section
variable {x:Cx} {ops:List Oper} {tk:List Nat} {fuel:Nat} {listed:Array Bool} {st:St} {K:St→Prop} {Q:Exit→St→Prop}
theorem zob {st':St} {c:Code} (l:List Nat) (hle:st.leR l st') (h:T x st' c Q):T x st c Q:=by
 unfold T at *
 exact fun a W hC=>h a W (hC.weakenR hle)
theorem zoc {ι:Type} {c d:Code} (S:ι→St) (ok:ι→Prop) (h:T x st c (zc1 (fun st'=>∃ i l,ok i∧st'.leR l (S i)) Q)) (hr:∀ i,ok i→T x (S i) d Q):T x st c (zc1 (fun st'=>T x st' d Q) Q):=by
 refine znN (fun e st' hq=>?_) h
 cases e with
 | normal =>
  obtain ⟨i,l,h1,h2⟩:=hq
  exact zob l h2 (hr i h1)
 | _=>exact hq
theorem zod {ι:Type} {c d:Code} {Q2:Exit→St→Prop} (S:ι→St) (ok:ι→Prop) (hn:∀ st',Q .normal st'=T x st' d Q2) (h:T x st c (zc1 (fun st'=>∃ i l,ok i∧st'.leR l (S i)) Q)) (hr:∀ i,ok i→T x (S i) d Q2):T x st c Q:=by
 refine znN (fun e st' hq=>?_) h
 cases e with
 | normal =>
  obtain ⟨i,l,h1,h2⟩:=hq
  rw [hn]
  exact zob l h2 (hr i h1)
 | _=>exact hq
theorem zoe {ι:Type} {c:Code} (S:ι→St) (ok:ι→Prop) (m:ι→Nat) (i0:ι) (h0:ok i0) (l0:List Nat) (hle:st.leR l0 (S i0))
  (hr:∀ i,ok i→T x (S i) c (zc1 (fun st'=>∃ j l,ok j∧m j < m i∧st'.leR l (S j)) Q)):T x st (.loop c) Q:=by
 unfold T at *
 intro a W hC
 refine zdd (fun i a' W'=>ok i∧Conc x.W0 x.h0 x.N (S i) a' W') m ?_ i0 a W ⟨h0,hC.weakenR hle⟩
 rintro i a W ⟨hi,hC⟩
 refine Code.wp_mono ?_ (hr i hi a W hC)
 rintro e a' W' ⟨st',hq,hC'⟩
 cases e with
 | normal =>
  obtain ⟨j,l,hj,hlt,hle⟩:=hq
  exact ⟨j,hlt,hj,hC'.weakenR hle⟩
 | _=>exact ⟨st',hq,hC'⟩
end
section
variable {α:Type} [Enc α] {e:TypeId} {h h2:Hp} {s:Sl α}
theorem RowAt.mem (H:RowAt e h s) {g:Nat} (hg:s.a=some ⟨g,0,none⟩):h g ≠ none:=by
 obtain ⟨h1,h2,⟨ha,hl,hc⟩|⟨g',cur,ha,hb,hsz,htk⟩⟩:=H
 ·rw [ha] at hg;cases hg
 ·rw [ha] at hg;cases hg;rw [hb];exact fun e=>by cases e
theorem Pub.beside {e':TypeId} {sz n:Nat} {xs:List Value} {ad:Option Addr} {cap:Nat} (H:Pub h e' sz n xs ad cap h2) (R:RowAt e h s):Pub (znC h s) e' sz n xs ad cap (znC h2 s):=by
 obtain ⟨h1,h3,h4,⟨ha,hn,hc,rfl⟩|⟨g,cur,rfl,hg,rfl,hsz,htk⟩⟩:=H
 ·exact ⟨h1,h3,h4,.inl ⟨ha,hn,hc,rfl⟩⟩
 ·have hne:∀ a,s.a=some a→g ≠ a.block:=fun a ha e=>by
   have hb:=R.blk a ha
   rw [hb,← e] at ha
   exact R.mem ha hg
  refine ⟨h1,h3,h4,.inr ⟨g,cur,rfl,by rw [zn0 hne];exact hg,?_,hsz,htk⟩⟩
  rcases s with ⟨a,c,l⟩
  cases a with
  | none=>rfl
  | some a =>
   have:=hne a rfl
   funext k
   simp only [znC,Hp.del,Hp.ins]
   split
   ·rename_i e;subst e;rw [if_neg (Ne.symm this)]
   ·rfl
end
open Go Go.RowKit
def zof {α:Type} (h:Hp) (b:Nat) (s:Sl α):Hp:=(znC h s).del b
def WB {α:Type} [Enc α] (tb e:TypeId) (h:Hp) (b:Nat) (s:Sl α):Prop :=
 h b=some (.cells #[s.val] tb (0,0))∧RowAt e h s∧s.a ≠ some ⟨b,0,none⟩∧∀ x ∈ s.l,Enc.ok (zof h b s) x
theorem zog {α:Type} {h:Hp} {b:Nat} {s:Sl α}:(zof h b s).le h:=fun k o hk=>by
 simp only [zof,Hp.del] at hk
 split at hk
 ·cases hk
 ·exact znY k o hk
section
variable {α:Type} [Enc α] {tb e:TypeId} {h h2:Hp} {b:Nat} {s:Sl α}
theorem WB.lds (H:WB tb e h b s):h.lds (some ⟨b,0,none⟩) 1=some [s.val]:=zmG (xs:=[s.val]) H.1 rfl (by simp)
theorem zoh (R:RowAt e h s) {k:Nat} (h1:k ≠ b) (h3:s.a ≠ some ⟨k,0,none⟩):zof h b s k=h k:=by
 simp only [zof,Hp.del,if_neg h1]
 exact zn0 fun a ha e=>h3 (by rw [ha,R.blk a ha,e])
theorem WB.grow (H:WB tb e h b s) (hle:h.le h2):WB tb e h2 b s∧(zof h b s).le (zof h2 b s):=by
 have hd:(zof h b s).le (zof h2 b s):=fun k o hk=>by
  simp only [zof,Hp.del] at hk ⊢
  split at hk
  ·cases hk
  ·rename_i hne;rw [if_neg hne];exact znZ hle k o hk
 refine ⟨⟨hle _ _ H.1,H.2.1.keep fun g hg=>?_,H.2.2.1,fun x hx=>Enc.mono hd (H.2.2.2 x hx)⟩,hd⟩
 obtain ⟨h1,h3,⟨ha,_⟩|⟨g',cur,ha,hb,hsz,htk⟩⟩:=H.2.1
 ·rw [ha] at hg;cases hg
 ·rw [ha] at hg;cases hg
  rw [hb];exact hle _ _ hb
theorem WB.beside {β:Type} [Enc β] {e':TypeId} {q:Sl β} (H:WB tb e h b s) (hle:h.le h2) (R:RowAt e' h2 q) (hf:∀ g,q.a=some ⟨g,0,none⟩→h g=none):RowAt e' (zof h2 b s) q:=by
 refine R.keep fun g hg=>?_
 refine zoh (e:=e) (H.grow hle).1.2.1 (fun e=>?_) (fun e=>?_)
 ·have:=hf g hg;rw [e,H.1] at this;cases this
 ·exact H.2.1.mem e (hf g hg)
theorem WB.push {x:α} {ad:Option Addr} {cap:Nat} (H:WB tb e h b s) (hx:Enc.ok (zof h b s) x) (P:Pub (znC h s) e (Enc.size α) (s.l ++ [x]).length ((s.l ++ [x]).flatMap Enc.enc) ad cap h2) :
  h2 b=some (.cells #[s.val] tb (0,0))∧WB tb e (h2.ins b (.cells #[(Sl.mk ad cap (s.l ++ [x])).val] tb (0,0))) b (Sl.mk ad cap (s.l ++ [x]))∧(zof h b s).le (zof (h2.ins b (.cells #[(Sl.mk ad cap (s.l ++ [x])).val] tb (0,0))) b (Sl.mk ad cap (s.l ++ [x]))) ∧
   (∀ g,ad=some ⟨g,0,none⟩→h g=none∨s.a=some ⟨g,0,none⟩):=by
 have hd:=P.drop (l:=s.l ++ [x])
 obtain ⟨h1,h3,h4⟩:=P.row
 obtain ⟨hb,R,hne,hok⟩:=H
 have hbd:znC h s b=h b:=zn0 fun a ha e=>hne (by rw [ha,R.blk a ha,e])
 have hadb:∀ g,ad=some ⟨g,0,none⟩→g ≠ b:=fun g hg e=>by
  have:=h3 g hg
  rw [e,hbd,hb] at this;cases this
 have h2b:h2 b=some (.cells #[s.val] tb (0,0)):=by rw [h4 b fun g hg e=>hadb g hg e.symm,hbd];exact hb
 have heq:zof (h2.ins b (.cells #[(Sl.mk ad cap (s.l ++ [x])).val] tb (0,0))) b (Sl.mk ad cap (s.l ++ [x]))=zof h b s:=by
  funext k
  simp only [zof,Hp.del]
  split
  ·rfl
  ·rename_i hk
   rw [← hd]
   cases ad with
   | none=>simp only [znC];exact Hp.ins_ne hk
   | some a =>
    simp only [znC,Hp.del]
    split
    ·rfl
    ·exact Hp.ins_ne hk
 refine ⟨h2b,⟨Hp.ins_same,h1.keep fun g hg=>Hp.ins_ne (hadb g hg),fun e=>hadb b e rfl,fun y hy=>?_⟩,by rw [heq];exact Hp.le_refl _,fun g hg=>?_⟩
 ·rw [heq]
  rcases List.mem_append.1 hy with hy|hy
  ·exact hok y hy
  ·rw [List.mem_singleton.1 hy];exact hx
 ·by_cases e:s.a=some ⟨g,0,none⟩
  ·exact .inr e
  ·left
   have:=h3 g hg
   rw [zn0 (fun a ha e'=>e (by rw [ha,R.blk a ha,e']))] at this
   exact this
end
open Go Go.RowKit
theorem WB.mine {α β:Type} [Enc α] [Enc β] [Foot β] {tb e:TypeId} {h h2:Hp} {b:Nat} {s:Sl α} {q:β} (H:WB tb e h b s) (hle:h.le h2) (hok:Enc.ok h2 q) (m:Mine h h2 q):Enc.ok (zof h2 b s) q:=by
 refine (Foot.loc hok m.1 fun g hg o ho=>?_).1
 have hn:=m.2.1 g hg
 rw [zoh (e:=e) (H.grow hle).1.2.1 (fun e=>by rw [e,H.1] at hn;cases hn) (fun e=>H.2.1.mem e hn)]
 exact ho
theorem WS.mine {α β:Type} [Enc α] [Enc β] [Foot β] {e:TypeId} {h h2:Hp} {s:Sl α} {q:β} (H:WS e h s) (hle:h.le h2) (hok:Enc.ok h2 q) (m:Mine h h2 q):Enc.ok (znC h2 s) q:=by
 refine (Foot.loc hok m.1 fun g hg o ho=>?_).1
 have hn:=m.2.1 g hg
 rw [zn0 fun a ha e=>H.1.mem (g:=g) (by rw [ha,H.1.blk a ha,e]) hn]
 exact ho
open Go Go.RowKit
theorem zoi {a u:Value}:(spl 0 [u] [a]).toArray=#[u]:=rfl
theorem pubF {α β:Type} [Enc α] {e:TypeId} {hk h h2:Hp} {s:Sl α} {sz n:Nat} {xs:List Value} {l:List β} {ad:Option Addr} {cap:Nat} (R:RowAt e h s) (hle:hk.le h) (hf:∀ g,s.a=some ⟨g,0,none⟩→hk g=none) (H:Pub (znC h s) e sz n xs ad cap h2) :
  hk.le h2∧∀ g,ad=some ⟨g,0,none⟩→hk g=none:=by
 obtain ⟨h1,h3,h4,H⟩:=H
 have hd:∀ k o,hk k=some o→znC h s k=some o:=fun k o hko=>by
  rw [zn0 fun a ha e=>?_]
  ·exact hle k o hko
  ·have:=hf k (by rw [ha,R.blk a ha,e]);rw [this] at hko;cases hko
 rcases H with ⟨ha,hn,hc,rfl⟩|⟨g,cur,rfl,hg,rfl,hsz,htk⟩
 ·exact ⟨hd,fun g e=>by rw [ha] at e;cases e⟩
 ·refine ⟨fun k o hko=>?_,fun g' e=>?_⟩
  ·have:=hd k o hko
   rw [Hp.ins_ne (fun e=>by subst e;rw [hg] at this;cases this)];exact this
  ·cases e
   cases hh:hk g with
   | none=>rfl
   | some o=>rw [hd g o hh] at hg;cases hg
open Go Go.RowKit
theorem WOk.rep {W0:Base} {h0:Hp} {ρ:Rho} {p:List (Nat × PB)} {h:Hp} {W:World} (hW:WOk W0 h0 ρ p h W) {r:Nat} {b0 b:PB} (hr:look r p=some b0) (ho:b.ok 0 ρ r W):WOk W0 h0 ρ (setP r b p) h W:=by
 refine ⟨hW.below,hW.sees,hW.ext,hW.new,fun r' b' g' hr' hat'=>?_,fun r' b' hr'=>?_,fun r' b' g' hr' hat'=>?_,fun r1 b1 r2 b2 g' h1 h2 a1 a2=>?_⟩
 ·rw [zb0 hr] at hr'
  split at hr'
  ·rename_i e;subst e;exact hW.own r' b0 g' hr hat'
  ·exact hW.own r' b' g' hr' hat'
 ·rw [zb0 hr] at hr'
  split at hr'
  ·rename_i e;subst e;simp only [Option.some.injEq] at hr';subst hr';exact ho
  ·exact hW.priv r' b' hr'
 ·rw [zb0 hr] at hr'
  split at hr'
  ·rename_i e;subst e;exact hW.apart r' b0 g' hr hat'
  ·exact hW.apart r' b' g' hr' hat'
 ·have key:∀ k b',look k (setP r b p)=some b'→∃ b'',look k p=some b'':=fun k b' hk=>by
   rw [zb0 hr] at hk
   split at hk
   ·rename_i e;subst e;exact ⟨_,hr⟩
   ·exact ⟨_,hk⟩
  obtain ⟨c1,k1⟩:=key r1 b1 h1
  obtain ⟨c2,k2⟩:=key r2 b2 h2
  exact hW.distinct r1 c1 r2 c2 g' k1 k2 a1 a2
theorem zoj {x:Cx} {st:St} {c:Code} {Q:Exit→St→Prop} (r:Nat) {ty:TypeId} (pre post:List SC) (e:TypeId) (sz:Nat) (hr:look r st.p=some (.box ty (pre ++ .v (.slice none 0 0) :: post)))
  (h:T x ⟨st.e,(st.nx,.row e sz 0 []) :: setP r (.box ty (pre ++ .s st.nx :: post)) st.p,st.h,st.nx+1⟩ c Q):T x st c Q:=by
 unfold T at *
 rintro a W ⟨ρ,hf,hW,hw⟩
 have hlt:=zao (wf_p hw) hr
 have hne:st.nx ≠ r:=fun e=>by omega
 refine h a W ⟨upd ρ st.nx (.slice none 0 0),?_,?_,?_⟩
 ·exact hf.congr (wf_e hw) (zbU ρ st.nx _)
 ·have hat:∀ g,atV (.slice none 0 0) g→False:=fun g hg=>by
   rcases hg with hg|⟨_,_,hg⟩ <;> cases hg
  have base:WOk x.W0 x.h0 (upd ρ st.nx (.slice none 0 0)) ((st.nx,.row e sz 0 []) :: st.p) st.h W :=
   hW.add (wf_p hw) (fun _ _ x=>x) hW.below hW.sees (fun g hg=>(hat g hg).elim) (fun r b hr=>hW.priv r b hr) (by
    show W.ownsRow 0 e sz (upd ρ st.nx _ st.nx) 0 []
    rw [zbT]
    exact ⟨by simp,.inl ⟨rfl,rfl⟩⟩) (fun g hg=>(hat g hg).elim) (fun r b' g _ _ hg=>(hat g hg).elim)
  have hr2:look r ((st.nx,PB.row e sz 0 []) :: st.p)=some (.box ty (pre ++ .v (.slice none 0 0) :: post)):=by
   simp only [look,if_neg hne];exact hr
  have:=base.rep (b:=.box ty (pre ++ .s st.nx :: post)) hr2 (by
   obtain ⟨g,h1,h2,h3⟩:=base.priv r _ hr2
   refine ⟨g,h1,h2,?_⟩
   rw [h3]
   congr 3
   simp only [List.map_append,List.map_cons,zaj,zah,zbT])
  simp only [setP,if_neg hne] at this
  exact this
 ·have hle:st.nx≤st.nx+1:=Nat.le_succ _
  have hb:(PB.box ty (pre ++ .s st.nx :: post)).lt (st.nx+1)=true:=by
   have h1:=hlt.2
   simp only [PB.lt,List.all_append,List.all_cons,jJ] at h1 ⊢
   refine ⟨?_,by simp [SC.lt],?_⟩
   ·rw [List.all_eq_true] at *
    intro c hc
    have:=h1.1 c hc
    cases c <;> simp_all [SC.lt] <;> omega
   ·have h2:=h1.2.2
    rw [List.all_eq_true] at *
    intro c hc
    have:=h2 c hc
    cases c <;> simp_all [SC.lt] <;> omega
  simp only [St.wf,jJ]
  exact ⟨zap hle (wf_e hw),by
   simp only [pbLt,jJ,decide_eq_true_eq]
   exact ⟨⟨by omega,rfl⟩,zb1 hb (zaq hle (wf_p hw))⟩⟩
open Go Go.RowKit
def Sl.fr {α:Type} [Enc α] (s:Sl α) (k:Nat):Sl α:=⟨if s.cap=k then s.a else s.a.map (·.add (k * Enc.size α)),s.cap - k,s.l.drop k⟩
open Go Go.RowKit Go.ChangeShapes Go.WideShapes Go.Deep
structure U8 where
 n:Int
deriving DecidableEq
instance:Enc U8 where
 size:=1
 enc u:=[.int .u8 u.n]
 len _:=rfl
 one n u hu:=by simp only [List.mem_singleton] at hu;subst hu;rfl
 ok _ u:=0≤u.n∧u.n < 256
 mono _ H:=H
@[go_sem] theorem zom {b:U8}:Enc.enc b=[.int .u8 b.n]:=rfl
theorem zon {h:Hp} {s:Sl U8} (H:s.Ok h) {i:Nat} (hi:i < s.l.length):h.lds (Option.map (·.add (i * 1)) s.a) 1=some [.int .u8 s.l[i].n]:=H.at hi
theorem zoo {P:Program} {t:TypeId} (ht:P.underlying t=some (.int .u8)):Opens U8 P t:=by
 intro H enc w base spare held fuel cs x h
 obtain ⟨n,rfl,_,wf⟩:=DataW.trod_int ht h
 refine ⟨⟨n⟩,rfl,?_⟩
 simp [Lit.wf] at wf
 simp only [Enc.ok]
 have h1:=wf.1
 have h2:=wf.2
 simp [IntKind.min,IntKind.max,IntKind.signed,IntKind.bits] at h1 h2
 omega
theorem zop (x:Int):0≤zaE .and .i64 x 255∧zaE .and .i64 x 255≤255:=by
 have h:(BitVec.ofInt 64 x &&& BitVec.ofInt 64 255).toNat≤255:=by
  rw [BitVec.toNat_and];exact Nat.le_trans Nat.and_le_right (by decide)
 have e:zaE .and .i64 x 255=IntKind.i64.wrap ((BitVec.ofInt 64 x &&& BitVec.ofInt 64 255).toNat:Int):=rfl
 rw [e,zjz (by omega)]
 omega
def Cu (tc:TypeId) (c:Sl U8) (h:Hp) (b:Nat):Prop:=c.Ok (h.del b)∧∃ (i k:Int),h b=some (.cells #[c.val,.int .i64 i,.int .i64 k] tc (0,0))∧0≤i∧i≤c.l.length
def Cg (tc:TypeId) (c:Sl U8) (h:Hp) (b:Nat) (h':Hp):Prop:=Cu tc c h' b∧(h.del b).le (h'.del b)
theorem zoq {h:Hp} {b:Nat}:(h.del b).le h:=fun k o hk=>by
 simp only [Hp.del] at hk
 split at hk
 ·cases hk
 ·exact hk
theorem zor {h:Hp} {b:Nat} {o:Obj}:(h.ins b o).del b=h.del b:=by
 funext k
 simp only [Hp.del,Hp.ins]
 split <;> rfl
theorem zos {h:Hp} {b:Nat} (hb:h b=none):h.del b=h:=by
 funext k
 simp only [Hp.del]
 split
 ·rename_i e;rw [e,hb]
 ·rfl
theorem zot {h h2:Hp} {b:Nat} (hle:h.le h2):(h.del b).le (h2.del b):=fun q o hq=>by
 simp only [Hp.del] at hq ⊢
 split at hq
 ·cases hq
 ·rename_i hne;rw [if_neg hne];exact hle q o hq
section
variable {tc:TypeId} {c:Sl U8} {h h2 h3:Hp} {b:Nat}
theorem Cu.ne (H:Cu tc c h b):h b ≠ none:=by
 obtain ⟨_,i,k,h1,_⟩:=H
 rw [h1];exact fun e=>by cases e
theorem Cu.grow (H:Cu tc c h b) (hle:h.le h2):Cu tc c h2 b:=by
 obtain ⟨h4,i,k,h1,h5⟩:=H
 exact ⟨h4.mono (zot hle),i,k,hle _ _ h1,h5⟩
theorem Cg.refl (H:Cu tc c h b):Cg tc c h b h:=⟨H,Hp.le_refl _⟩
theorem Cg.trans (H:Cg tc c h b h2) (K:Cg tc c h2 b h3):Cg tc c h b h3:=⟨K.1,Hp.le_trans H.2 K.2⟩
theorem Cg.grow (H:Cg tc c h b h2) (hle:h2.le h3):Cg tc c h b h3:=⟨H.1.grow hle,Hp.le_trans H.2 (zot hle)⟩
theorem Cg.fresh (H:Cg tc c h b h2) {g:Nat} (hg:h2 g=none):h g=none∧g ≠ b:=by
 have hne:g ≠ b:=fun e=>H.1.ne (by rw [← e];exact hg)
 refine ⟨?_,hne⟩
 cases hh:h g with
 | none=>rfl
 | some o =>
  have:=H.2 g o (by rw [Hp.del_ne hne];exact hh)
  rw [Hp.del_ne hne,hg] at this
  cases this
theorem zou {α:Type} [Enc α] {e:TypeId} {s:Sl α} (R:RowAt e h2 s) (hf:∀ g,s.a=some ⟨g,0,none⟩→h g=none) (hb:h b ≠ none):RowAt e (h2.del b) s:=R.keep fun g hg=>Hp.del_ne fun e=>hb (by rw [← e];exact hf g hg)
theorem zov {α:Type} [Enc α] {e:TypeId} {s:Sl α} (R:RowAt e h s) (hle:h.le h2):RowAt e h2 s:=R.keep fun g hg=>by
 obtain ⟨h1,h3,⟨ha,_⟩|⟨g',cur,ha,hb,_⟩⟩:=R
 ·rw [ha] at hg;cases hg
 ·rw [ha] at hg;cases hg
  rw [hb];exact hle _ _ hb
end
theorem Cg.adopt {tc:TypeId} {c:Sl U8} {h h2 h3:Hp} {b:Nat} {α:Type} [Enc α] {e e':TypeId} {s:Sl α} {sz n:Nat} {xs:List Value} {ad:Option Addr} {cap:Nat} (G:Cg tc c h b h2) (H0:c.Ok (h.del b)) (R:RowAt e h2 s) (fr:∀ g,s.a=some ⟨g,0,none⟩→h g=none∧g ≠ b) (P:Pub (znC h2 s) e' sz n xs ad cap h3) :
  Cg tc c h b h3∧znC h2 s b ≠ none:=by
 have hle:(h.del b).le (h3.del b):=fun q o hq=>by
  by_cases e:q=b
  ·subst e;rw [Hp.del_same] at hq;cases hq
  ·rw [Hp.del_ne e] at hq ⊢
   have h1:=G.2 q o (by rw [Hp.del_ne e];exact hq)
   rw [Hp.del_ne e] at h1
   refine P.le q o ?_
   rw [zn0 fun a ha e2=>?_]
   ·exact h1
   ·have:=(fr a.block (by rw [ha];exact congrArg some (R.blk a ha))).1
    rw [← e2,hq] at this;cases this
 obtain ⟨_,i,k,hb,hi⟩:=G.1
 have hd:znC h2 s b=h2 b:=zn0 fun a ha e2=>(fr a.block (by rw [ha];exact congrArg some (R.blk a ha))).2 e2.symm
 exact ⟨⟨⟨H0.mono hle,i,k,P.le _ _ (by rw [hd];exact hb),hi⟩,hle⟩,by rw [hd,hb];exact fun e=>by cases e⟩
open Go Go.RowKit
theorem zow {x:Cx} {st:St} {KH:Hp→Prop} {t:TypeId} {b off:Nat} {u:Value} {xs xs':List Value} {e:TypeId} (ht:hasT x.P t=true) (hs:szT x.P t=1) (hu:SV.cells (.c (.v u))=[.v u]) (h1:u.oneCell'=true) (hb:st.h b=some (.cells xs.toArray e (0,0))) (hown:x.h0 b=none∨x.W0.own b) (hle:off+1≤xs.length) (hx:spl off [u] xs=xs')
  (hk:KH (st.h.ins b (.cells xs'.toArray e (0,0)))):zlk x st t (.c (.v (.pointer (some ⟨b,off,none⟩)))) (.c (.v u)) KH:=by
 refine zlC ht hs hu h1 hb hown (by simpa using hle) ?_
 rw [List.toList_toArray,hx]
 exact hk
open Go Go.RowKit
theorem zox {α:Type} [Enc α] {u:Value} {w:α} {o:Nat} (ho:o < Enc.size α):∀ {l:List α} {i:Nat} (hi:i < l.length),(Enc.enc l[i]).set o u=Enc.enc w→(l.flatMap Enc.enc).set (i * Enc.size α+o) u=(l.set i w).flatMap Enc.enc
 | y :: l,0,hi,h=>by
  rw [List.flatMap_cons,List.set_cons_zero,List.flatMap_cons,Nat.zero_mul,Nat.zero_add,List.set_append_left _ _ (by rw [Enc.len];exact ho)]
  rw [List.getElem_cons_zero] at h
  rw [h]
 | y :: l,i+1,hi,h=>by
  rw [List.flatMap_cons,List.set_cons_succ,List.flatMap_cons,List.set_append_right _ _ (by rw [Enc.len,Nat.add_mul];omega),Enc.len]
  have e:(i+1) * Enc.size α+o - Enc.size α=i * Enc.size α+o:=by rw [Nat.add_mul];omega
  rw [e,zox ho (l:=l) (i:=i) (by simpa using hi) (by simpa using h)]
theorem zoy {α:Type} [Enc α] {e:TypeId} {h:Hp} {s:Sl α} {i o:Nat} {u:Value} {w:α} (H:RowAt e h s) (hi:i < s.l.length) (ho:o < Enc.size α) (hw:(Enc.enc s.l[i]).set o u=Enc.enc w) :
  ∃ g cur,s.a=some ⟨g,0,none⟩∧h g=some (.cells cur e (0,0))∧i * Enc.size α+o+1≤cur.size∧RowAt e (h.ins g (.cells (spl (i * Enc.size α+o) [u] cur.toList).toArray e (0,0))) ⟨s.a,s.cap,s.l.set i w⟩:=by
 obtain ⟨h1,h2,⟨ha,hl,hc⟩|⟨g,cur,ha,hb,hsz,htk⟩⟩:=H
 ·rw [hl] at hi;cases hi
 ·have hlt:i * Enc.size α+o < s.l.length * Enc.size α:=by
   have:(i+1) * Enc.size α≤s.l.length * Enc.size α:=Nat.mul_le_mul_right _ hi
   rw [Nat.add_mul,Nat.one_mul] at this
   omega
  have hle:s.l.length * Enc.size α≤s.cap * Enc.size α:=Nat.mul_le_mul_right _ h1
  refine ⟨g,cur,ha,hb,by omega,by rw [List.length_set];exact h1,h2,.inr ⟨g,_,ha,Hp.ins_same,?_,?_⟩⟩
  ·have hl:cur.toList.length=cur.size:=Array.length_toList
   simp only [spl,zbG,List.size_toArray,List.length_append,List.length_take,List.length_drop,List.length_cons,List.length_nil]
   omega
  ·have hsl:spl (i * Enc.size α+o) [u] cur.toList=cur.toList.set (i * Enc.size α+o) u:=by
    unfold spl zbG
    exact znJ (by rw [Array.length_toList];omega)
   rw [hsl,List.length_set,List.take_set,htk]
   exact zox ho hi hw
open Go Go.RowKit
theorem zoz {h:Hp} {g b:Nat} {o:Obj} (hg:g ≠ b):(h.ins g o).del b=(h.del b).ins g o:=by
 funext k
 simp only [Hp.del,Hp.ins]
 by_cases h1:k=b
 ·subst h1
  rw [if_pos rfl,if_neg (Ne.symm hg),if_pos rfl]
 ·rw [if_neg h1,if_neg h1]
theorem Cg.ins {tc:TypeId} {c:Sl U8} {h h2:Hp} {b g:Nat} {o:Obj} (G:Cg tc c h b h2) (H0:c.Ok (h.del b)) (hg:h g=none) (hgb:g ≠ b):Cg tc c h b (h2.ins g o):=by
 have hle:(h.del b).le ((h2.ins g o).del b):=fun q o' hq=>by
  by_cases e:q=b
  ·subst e;rw [Hp.del_same] at hq;cases hq
  ·have h1:=G.2 q o' hq
   rw [Hp.del_ne e] at hq h1 ⊢
   rw [Hp.ins_ne fun e2=>by rw [e2,hg] at hq;cases hq]
   exact h1
 obtain ⟨_,i,k,hb,hi⟩:=G.1
 exact ⟨⟨H0.mono hle,i,k,by rw [Hp.ins_ne (Ne.symm hgb)];exact hb,hi⟩,hle⟩
theorem Wk {P Q:Prop} (q:Q) (t:Q→P:=by (intro zq;(repeat' first|refine zie rfl ?_|refine zc4 rfl ?_|refine zc7 ?_|refine zc8 ?_|refine zc5 ?_|refine zc6 ?_|(simp (maxSteps:=2000000) only [go_sem,jq,jj,jy,jv,jk,jx];try rfl)|refine zc3 ?_|(refine And.intro ?_ ?_;focus (intros;clear zq;simp_all only [jp,jQ,jJ,and_self,true_and,and_true];done)));exact zq;done)):P:=t q
theorem Wk0 {P:Prop} (t:P:=by ((repeat' first|refine zie rfl ?_|refine zc4 rfl ?_|refine zc7 ?_|refine zc8 ?_|refine zc5 ?_|refine zc6 ?_|(simp (maxSteps:=2000000) only [go_sem,jq,jj,jy,jv,jk,jx];try rfl)|refine zc3 ?_|(refine And.intro ?_ ?_;focus (intros;simp_all only [jp,jQ,jJ,and_self,true_and,and_true];done)));done)):P:=t
theorem Evs {P Q:Prop} (q:Q) (t:Q→P:=by (intro zq;(simp (maxSteps:=2000000) only [go_sem,jq,jj,jy,jv,jk,jx]);exact zq;done)):P:=t q
theorem Evc {P:Prop} (t:P:=by (simp (maxSteps:=2000000) only [go_sem,jq,jj,jy,jv,jk,jx];done)):P:=t
class St1 (x:Cx) (st:St) (c:Code) (Q:Exit→St→Prop) (P:outParam Prop):Prop where
 go:P→T x st c Q
instance {x:Cx} {st:St} {Q:Exit→St→Prop}:St1 x st .ret Q (Q .ret st):=⟨zc7⟩
instance {x:Cx} {st:St} {Q:Exit→St→Prop} {id:Nat} {c:Code}:St1 x st (.block id c) Q (T x st c (zc2 id Q)):=⟨zc8⟩
instance {x:Cx} {st:St} {Q:Exit→St→Prop}:St1 x st .skip Q (Q .normal st):=⟨zc5⟩
instance {x:Cx} {st:St} {Q:Exit→St→Prop} {id:Nat}:St1 x st (.exit id) Q (Q (.exit id) st):=⟨zc6⟩
theorem Wa {P Q:Prop} (q:Q) (t:Q→P:=by (intro zq;(first|refine zie rfl ?_|refine zc4 rfl ?_|refine St1.go ?_|fail);exact zq)):P:=t q
theorem Wb {P Q:Prop} (q:Q) (t:Q→P:=by (intro zq;(first|refine zc3 ?_|(refine And.intro ?_ ?_;focus (intros;clear zq;simp_all only [jp,jQ,jJ,and_self,true_and,and_true];(first|done|fail)))|fail);exact zq)):P:=t q
theorem Gi {a b:Int} (e:a=b) {P:Prop} (t:a=b→P:=by (intro e;repeat' first|exact zjB e|exact rfl|exact trivial|assumption|decide|refine And.intro ?_ ?_)):P:=t e
theorem Gk {P:Prop} (t:P:=by (repeat' first|exact rfl|exact trivial|assumption|decide|refine And.intro ?_ ?_)):P:=t
end Go.SL
