/- Plain theorems about the model: a symbolic state, its evaluation and its soundness. No condition; nothing of the program is named. -/
import Derived.Test.YtjiggadgmmjnhaaXCrewSuffices8
set_option linter.unusedVariables false
set_option linter.unusedSimpArgs false
namespace Go.SL
open Go Go.RowKit
instance:Enc Bool where
  size:=1
  enc n:=[.bool n]
  len _:=rfl
  one n u hu:=by simp only [List.mem_singleton] at hu;subst hu;rfl
  ok _ n:=True
  mono _ H:=H
@[go_sem] theorem ztu {b:Bool}:Enc.enc b=[.bool b]:=rfl
theorem ztv {h:Hp} {s:Sl Bool} (H:s.Ok h) {i:Nat} (hi:i < s.l.length):h.lds (Option.map (·.add (i * 1)) s.a) 1=some [.bool s.l[i]]:=H.at hi
instance:Foot Bool:=⟨fun _=>[],fun _ _=>True,fun H _ _=>⟨H,trivial⟩,fun _ b hb=>by cases hb⟩
end Go.SL
namespace Go.SL
open Go Go.RowKit
section
variable (both:Nat→Nat→Bool)
def ztw (who:List Nat) (c:Nat):Bool:=decide (∀ k,k < who.length→who.getD k 0=c→both who.length k=true)
def ztx:List Nat→Nat
  | []=>0
  | c :: l=>max (c+1) (ztx l)
def zty (most:Nat):Nat→List Nat→Option (List Nat)
  | 0,who=>some who
  | f+1,who=>(List.range (min (ztx who+1) most)).findSome? fun c=>if ztw both who c=true then zty most f (who ++ [c]) else none
def CovOn (s:Nat→Prop) (m:Nat):Prop:=∃ g:Nat→Nat,(∀ i,s i→g i < m)∧∀ i k,s i→s k→k < i→g i=g k→both i k=true
end
variable {both:Nat→Nat→Bool}
theorem ztz (l:List Nat) (c:Nat):ztx (l ++ [c])=max (ztx l) (c+1):=by
  induction l with
  | nil=>simp [ztx]
  | cons d l ih=>simp only [List.cons_append,ztx,ih];omega
theorem ztA {l:List Nat} {c:Nat} (h:c ∈ l):c < ztx l:=by
  induction l with
  | nil=>cases h
  | cons d l ih =>
    unfold ztx
    rcases List.mem_cons.1 h with rfl|h
    · omega
    · have:=ih h;omega
def WhoOk (both:Nat→Nat→Bool) (most:Nat) (who:List Nat):Prop:=(∀ i (hi:i < who.length),who[i] < most)∧∀ i k (hi:i < who.length) (hk:k < who.length),k < i→who[i]=who[k]→both i k=true
theorem WhoOk.snoc {most:Nat} {who:List Nat} {c:Nat} (H:WhoOk both most who) (hc:c < most) (hf:ztw both who c=true):WhoOk both most (who ++ [c]):=by
  have hf:=of_decide_eq_true hf
  refine ⟨fun i hi=>?_,fun i k hi hk hki he=>?_⟩
  · rw [List.getElem_append];split
    · exact H.1 i _
    · simpa using hc
  · rw [List.length_append,List.length_singleton] at hi hk
    have hk':k < who.length:=by omega
    rw [List.getElem_append_left hk'] at he
    by_cases hi':i < who.length
    · rw [List.getElem_append_left hi'] at he
      exact H.2 i k hi' hk' hki he
    · have:i=who.length:=by omega
      subst this
      rw [List.getElem_append_right (Nat.le_refl _)] at he
      simp only [Nat.sub_self,List.getElem_cons_zero] at he
      exact hf k hk' (by simp [List.getD_eq_getElem?_getD,hk',he])
theorem ztB {most:Nat}:∀ {f:Nat} {who w:List Nat},WhoOk both most who→zty both most f who=some w→WhoOk both most w∧w.length=who.length+f
  | 0,who,w,H,h=>by simp only [zty,Option.some.injEq] at h;subst h;exact ⟨H,rfl⟩
  | f+1,who,w,H,h=>by
    unfold zty at h
    obtain ⟨c,hc,h⟩:=List.exists_of_findSome?_eq_some h
    have hc:=List.mem_range.1 hc
    split at h
    · rename_i hf
      obtain ⟨h1,h2⟩:=ztB (H.snoc (by omega) hf) h
      exact ⟨h1,by rw [h2,List.length_append,List.length_singleton];omega⟩
    · cases h
theorem ztC:∀ {m:Nat} {l:List Nat},l.Nodup→(∀ x ∈ l,x < m)→l.length≤m
  | 0,l,_,h=>by cases l with
    | nil=>exact Nat.le_refl _
    | cons x l=>exact absurd (h x (List.mem_cons_self ..)) (Nat.not_lt_zero _)
  | m+1,l,hn,h=>by
    have h1:(l.erase m).length≤m:=ztC (hn.erase m) fun x hx=>by
      have hx1:=h x (List.mem_of_mem_erase hx)
      have hne:x ≠ m:=fun e=>by subst e;exact absurd hx (by rw [hn.mem_erase_iff];simp)
      omega
    by_cases hm:m ∈ l
    · rw [List.length_erase_of_mem hm] at h1;omega
    · rw [List.erase_of_not_mem hm] at h1;omega
theorem ztD {n most:Nat} {g:Nat→Nat} (hg:∀ i,i < n→g i < most) (hb:∀ i k,k < i→i < n→g i=g k→both i k=true) :
    ∀ {f:Nat} {who:List Nat} {vals:List Nat},who.length+f=n→vals.Nodup→(∀ x ∈ vals,x < most)→ztx who=vals.length→(∀ i (hi:i < who.length),∃ h:who[i] < vals.length,g i=vals[who[i]])→(zty both most f who).isSome=true
  | 0,who,vals,_,_,_,_,_=>rfl
  | f+1,who,vals,hn,hnd,hv,hu,hw=>by
    unfold zty
    rw [Option.isSome_iff_ne_none]
    intro hnone
    rw [List.findSome?_eq_none_iff] at hnone
    have hlen:=ztC hnd hv
    have hgm:=hg who.length (by omega)
    by_cases hm:g who.length ∈ vals
    · obtain ⟨c,hc,he⟩:=List.getElem_of_mem hm
      have hcr:c ∈ List.range (min (ztx who+1) most):=List.mem_range.2 (by omega)
      have hfit:ztw both who c=true:=decide_eq_true fun k hk hkc=>by
        obtain ⟨h1,h2⟩:=hw k hk
        have e:who[k]=c:=by simpa [List.getD_eq_getElem?_getD,hk] using hkc
        refine hb _ _ hk (by omega) ?_
        rw [h2,← he];congr 1;exact e.symm
      have:=hnone c hcr
      rw [if_pos hfit] at this
      have ih:=ztD (most:=most) hg hb (f:=f) (who:=who ++ [c]) (vals:=vals) (by rw [List.length_append,List.length_singleton];omega) hnd hv (by rw [ztz];omega) (fun i hi=>by
        by_cases hi':i < who.length
        · rw [List.getElem_append_left hi'];exact hw i hi'
        · have:i=who.length:=by rw [List.length_append,List.length_singleton] at hi;omega
          subst this
          simp only [List.getElem_append_right (Nat.le_refl _),Nat.sub_self,List.getElem_cons_zero]
          exact ⟨hc,he.symm⟩)
      rw [this] at ih;cases ih
    · have hnd':(vals ++ [g who.length]).Nodup:=by
        rw [List.nodup_append]
        exact ⟨hnd,(by simp),fun a ha b hb'=>by rw [List.mem_singleton.1 hb'];exact fun e=>hm (by rw [← e];exact ha)⟩
      have hv':∀ x ∈ vals ++ [g who.length],x < most:=fun x hx=>by
        rcases List.mem_append.1 hx with hx|hx
        · exact hv x hx
        · rw [List.mem_singleton.1 hx];exact hgm
      have hlen':=ztC hnd' hv'
      rw [List.length_append,List.length_singleton] at hlen'
      have hcr:vals.length ∈ List.range (min (ztx who+1) most):=List.mem_range.2 (by omega)
      have hfit:ztw both who vals.length=true:=decide_eq_true fun k hk hkc=>by
        obtain ⟨h1,h2⟩:=hw k hk
        have e:who[k]=vals.length:=by simpa [List.getD_eq_getElem?_getD,hk] using hkc
        omega
      have:=hnone _ hcr
      rw [if_pos hfit] at this
      have ih:=ztD (most:=most) hg hb (f:=f) (who:=who ++ [vals.length]) (vals:=vals ++ [g who.length]) (by rw [List.length_append,List.length_singleton];omega) hnd' hv' (by rw [ztz,List.length_append,List.length_singleton];omega) (fun i hi=>by
        by_cases hi':i < who.length
        · obtain ⟨h1,h2⟩:=hw i hi'
          simp only [List.getElem_append_left hi']
          exact ⟨by rw [List.length_append];omega,by rw [h2,List.getElem_append_left h1]⟩
        · have:i=who.length:=by rw [List.length_append,List.length_singleton] at hi;omega
          subst this
          simp only [List.getElem_append_right (Nat.le_refl _),Nat.sub_self,List.getElem_cons_zero]
          exact ⟨by rw [List.length_append,List.length_singleton];omega,trivial⟩)
      rw [this] at ih;cases ih
theorem ztE {n most:Nat}:(zty both most n []).isSome=true ↔ CovOn both (fun i=>i < n) most:=by
  constructor
  · intro h
    obtain ⟨w,hw⟩:=Option.isSome_iff_exists.1 h
    obtain ⟨H,hl⟩:=ztB ⟨fun i hi=>absurd hi (Nat.not_lt_zero _),fun i k hi=>absurd hi (Nat.not_lt_zero _)⟩ hw
    simp only [List.length_nil,Nat.zero_add] at hl
    refine ⟨fun i=>w.getD i 0,fun i hi=>?_,fun i k hi hk hki he=>?_⟩
    · have hi':i < w.length:=by omega
      simp only [List.getD_eq_getElem?_getD,List.getElem?_eq_getElem hi',Option.getD_some]
      exact H.1 i hi'
    · have hi':i < w.length:=by omega
      have hk':k < w.length:=by omega
      simp only [List.getD_eq_getElem?_getD,List.getElem?_eq_getElem hi',List.getElem?_eq_getElem hk',Option.getD_some] at he
      exact H.2 i k hi' hk' hki he
  · rintro ⟨g,hg,hb⟩
    exact ztD hg (fun i k hki hi he=>hb i k hi (by omega) hki he) (f:=n) (who:=[]) (vals:=[]) (by simp) List.nodup_nil (fun x hx=>by cases hx) rfl (fun i hi=>absurd hi (Nat.not_lt_zero _))
theorem CovOn.id {s:Nat→Prop} {n:Nat} (h:∀ i,s i→i < n):CovOn both s n:=⟨fun i=>i,h,fun i k _ _ hki he=>by simp only at he;omega⟩
theorem CovOn.mono {s:Nat→Prop} {m m':Nat} (h:m≤m') (H:CovOn both s m):CovOn both s m':=by
  obtain ⟨g,h1,h2⟩:=H
  exact ⟨g,fun i hi=>Nat.lt_of_lt_of_le (h1 i hi) h,h2⟩
theorem CovOn.add {s r q:Nat→Prop} {l m:Nat} (hs:∀ i,s i→i=l∨r i) (hr:∀ i,r i→i < l) (hq:∀ i,r i→q i→both l i=true) (hqq:∀ i k,r i→r k→q i→q k→k < i→both i k=true) (H:CovOn both (fun i=>r i∧¬ q i) m):CovOn both s (1+m):=by
  obtain ⟨g,h1,h2⟩:=H
  refine ⟨fun i=>open Classical in if i=l∨q i then m else g i,fun i hi=>?_,fun i k hi hk hki he=>?_⟩
  · simp only
    split
    · omega
    · rename_i h
      have h:=not_or.1 h
      have:=h1 i ⟨(hs i hi).resolve_left h.1,h.2⟩
      omega
  · simp only at he
    have nl:k ≠ l:=fun e=>by
      rcases hs i hi with h|h
      · omega
      · have:=hr i h;omega
    have rk:=(hs k hk).resolve_left nl
    split at he
    · rename_i hc
      split at he
      · rename_i hc2
        have qk:=hc2.resolve_left nl
        rcases hs i hi with rfl|ri
        · exact hq k rk qk
        · refine hqq i k ri rk (hc.resolve_left fun e=>?_) qk hki
          subst e;exact absurd (hr i ri) (Nat.lt_irrefl _)
      · rename_i hc2
        have:=h1 k ⟨rk,fun h=>hc2 (.inr h)⟩
        omega
    · rename_i hc
      have hc:=not_or.1 hc
      have ri:=(hs i hi).resolve_left hc.1
      split at he
      · have:=h1 i ⟨ri,hc.2⟩;omega
      · rename_i hc2
        exact h2 i k ⟨ri,hc.2⟩ ⟨rk,fun h=>hc2 (.inr h)⟩ hki he
theorem CovOn.cut {s r:Nat→Prop} {l m:Nat} (hl:s l) (hrs:∀ i,r i→s i) (hr:∀ i,r i→i < l) (H:CovOn both s m) :
    ∃ q:Nat→Prop,0 < m∧(∀ i,r i→q i→both l i=true)∧(∀ i k,r i→r k→q i→q k→k < i→both i k=true)∧CovOn both (fun i=>r i∧¬ q i) (m - 1):=by
  obtain ⟨g,h1,h2⟩:=H
  have hm:=h1 l hl
  refine ⟨fun i=>g i=g l,by omega,fun i ri qi=>h2 l i hl (hrs i ri) (hr i ri) qi.symm,fun i k ri rk qi qk hki=>h2 i k (hrs i ri) (hrs k rk) hki (qi.trans qk.symm),fun i=>if g i=m - 1 then g l else g i,fun i hi=>?_,fun i k hi hk hki he=>?_⟩
  · have:=h1 i (hrs i hi.1)
    simp only
    split
    · rename_i e
      have:=hi.2
      omega
    · omega
  · simp only at he
    refine h2 i k (hrs i hi.1) (hrs k hk.1) hki ?_
    have a:=hi.2
    have b:=hk.2
    split at he <;> split at he <;> omega
end Go.SL
namespace Go.SL
open Go Go.RowKit
def subN (a b:Nat):Prop:=∀ i,a.testBit i=true→b.testBit i=true
theorem ztF {a b:Nat} (h:subN a b):subN (a / 2) (b / 2):=fun i hi=>by
  have:=h (i+1) (by rw [Nat.testBit_succ];exact hi)
  rwa [Nat.testBit_succ] at this
theorem ztG {a b:Nat} (h:subN a b):a % 2≤b % 2:=by
  have:=h 0
  simp only [Nat.testBit_zero,decide_eq_true_eq] at this
  rcases Nat.mod_two_eq_zero_or_one a with h1|h1
  · omega
  · have:=this h1;omega
theorem ztH (a b:Nat):a &&& b=2 * (a / 2 &&& b / 2)+(if a % 2=1∧b % 2=1 then 1 else 0):=by
  have e1:(a &&& b) / 2=a / 2 &&& b / 2:=by
    apply Nat.eq_of_testBit_eq
    intro i
    rw [← Nat.testBit_succ,Nat.testBit_and,Nat.testBit_and,Nat.testBit_succ,Nat.testBit_succ]
  have e2:(a &&& b) % 2=if a % 2=1∧b % 2=1 then 1 else 0:=by
    have:=Nat.testBit_and a b 0
    simp only [Nat.testBit_zero] at this
    rcases Nat.mod_two_eq_zero_or_one (a &&& b) with h|h <;> rcases Nat.mod_two_eq_zero_or_one a with h1|h1 <;> rcases Nat.mod_two_eq_zero_or_one b with h2|h2 <;> simp [h,h1,h2] at this ⊢
  rw [← e1,← e2];omega
theorem ztI:∀ {a b:Nat},subN a b→a≤b:=by
  intro a b
  induction b using Nat.strongRecOn generalizing a with
  | ind b ih =>
    intro h
    rcases Nat.eq_zero_or_pos b with rfl|hb
    · rcases Nat.eq_zero_or_pos a with rfl|ha
      · exact Nat.le_refl _
      · obtain ⟨i,hi⟩:=Nat.exists_testBit_of_ne_zero (by omega:a ≠ 0)
        have:=h i hi
        simp at this
    · have h1:=ih (b / 2) (by omega) (ztF h)
      have h2:=ztG h
      omega
theorem ztJ:∀ {part rest q:Nat},subN q rest→subN part rest→q < part→q≤(part - 1) &&& rest:=by
  intro part
  induction part using Nat.strongRecOn with
  | ind part ih =>
    intro rest q hq hp hlt
    rw [ztH]
    have h1:=ztG hq
    have h2:=ztG hp
    rcases Nat.mod_two_eq_zero_or_one part with ho|ho
    · have e1:(part - 1) / 2=part / 2 - 1:=by omega
      have e2:(part - 1) % 2=1:=by omega
      have:=ih (part / 2) (by omega) (ztF hq) (ztF hp) (by omega)
      rw [e1,e2]
      simp only [true_and]
      split <;> omega
    · have e1:(part - 1) / 2=part / 2:=by omega
      have e2:(part - 1) % 2=0:=by omega
      have e3:part / 2 &&& rest / 2=part / 2:=by
        apply Nat.eq_of_testBit_eq
        intro i
        rw [Nat.testBit_and]
        cases h:(part / 2).testBit i
        · rfl
        · rw [ztF hp i h];rfl
      rw [e1,e2,e3]
      simp only [Nat.zero_ne_one,false_and,if_false]
      omega
theorem ztK (Q:Nat→Prop):∀ (rest:Nat),∃ q:Nat,∀ i,q.testBit i=true ↔ (rest.testBit i=true∧Q i):=by
  intro rest
  induction rest using Nat.strongRecOn generalizing Q with
  | ind rest ih =>
    rcases Nat.eq_zero_or_pos rest with rfl|hr
    · exact ⟨0,fun i=>by simp⟩
    · obtain ⟨q,hq⟩:=ih (rest / 2) (by omega) (fun i=>Q (i+1))
      open Classical in
      refine ⟨2 * q+(if rest % 2=1∧Q 0 then 1 else 0),fun i=>?_⟩
      cases i with
      | zero =>
        simp only [Nat.testBit_zero,decide_eq_true_eq]
        split
        · rename_i h;simp [h]
        · rename_i h
          constructor
          · intro e;omega
          · intro e;exact (h e).elim
      | succ i =>
        rw [Nat.testBit_succ,Nat.testBit_succ]
        have:(2 * q+(if rest % 2=1∧Q 0 then 1 else 0)) / 2=q:=by split <;> omega
        rw [this];exact hq i
def ztL (a b:Nat):Nat:=(BitVec.ofNat 64 a &&& ~~~BitVec.ofNat 64 b).toNat
theorem ztM {a b i:Nat} (ha:a < 2 ^ 64):(ztL a b).testBit i=(a.testBit i && !b.testBit i):=by
  unfold ztL
  rw [← BitVec.getLsbD,BitVec.getLsbD_and,BitVec.getLsbD_not,BitVec.getLsbD_ofNat,BitVec.getLsbD_ofNat]
  by_cases hi:i < 64
  · simp [hi]
  · have:a.testBit i=false:=Nat.testBit_lt_two_pow (Nat.lt_of_lt_of_le ha (Nat.pow_le_pow_right (by decide) (by omega)))
    simp [hi,this]
theorem ztN {a b:Nat} (ha:a < 2 ^ 64):subN (ztL a b) a:=fun i hi=>by rw [ztM ha,Bool.and_eq_true] at hi;exact hi.1
theorem ztO {a b:Nat} (ha:a < 2 ^ 64):ztL a b≤a:=ztI (ztN ha)
theorem ztP {a b:Nat} (ha:a < 2 ^ 64):ztL a b=0 ↔ subN a b:=by
  constructor
  · intro h i hi
    have:=ztM (i:=i) (b:=b) ha
    rw [h,hi] at this
    simpa using this.symm
  · intro h
    apply Nat.eq_of_testBit_eq
    intro i
    rw [ztM ha,Nat.zero_testBit]
    cases hi:a.testBit i
    · rfl
    · rw [h i hi];rfl
theorem ztQ {k:IntKind} {a:Nat}:BitVec.ofInt k.bits (a:Int)=BitVec.ofNat k.bits a:=by
  apply BitVec.eq_of_toNat_eq;simp [BitVec.toNat_ofInt,BitVec.toNat_ofNat]
theorem ztR {a:Nat} (h:a < 2 ^ 63):IntKind.i64.wrap (a:Int)=a:=zjz (by omega)
theorem ztS {a:Nat} (h:a < 2 ^ 64):IntKind.u64.wrap (a:Int)=a:=by
  show ((a:Int) % (2 ^ 64:Int))=a
  omega
theorem ztT {a b:Nat} (ha:a < 2 ^ 63) (hb:b < 2 ^ 63):zaE .and .i64 a b=((a &&& b:Nat):Int):=by
  unfold zaE
  rw [ztQ,ztQ]
  have:(BitVec.ofNat IntKind.i64.bits a &&& BitVec.ofNat IntKind.i64.bits b).toNat=a &&& b:=by
    rw [BitVec.toNat_and,BitVec.toNat_ofNat,BitVec.toNat_ofNat]
    show a % 2 ^ 64 &&& b % 2 ^ 64=_
    rw [Nat.mod_eq_of_lt (by omega),Nat.mod_eq_of_lt (by omega)]
  rw [this]
  exact ztR (Nat.lt_of_le_of_lt Nat.and_le_left ha)
theorem ztU {a b:Nat} (ha:a < 2 ^ 63) (hb:b < 2 ^ 63):zaE .or .i64 a b=((a ||| b:Nat):Int):=by
  unfold zaE
  rw [ztQ,ztQ]
  have:(BitVec.ofNat IntKind.i64.bits a ||| BitVec.ofNat IntKind.i64.bits b).toNat=a ||| b:=by
    rw [BitVec.toNat_or,BitVec.toNat_ofNat,BitVec.toNat_ofNat]
    show a % 2 ^ 64 ||| b % 2 ^ 64=_
    rw [Nat.mod_eq_of_lt (by omega),Nat.mod_eq_of_lt (by omega)]
  rw [this]
  exact ztR (Nat.or_lt_two_pow ha hb)
theorem ztV {a b:Nat} (ha:a < 2 ^ 64) (hb:b < 2 ^ 64):zaE .or .u64 a b=((a ||| b:Nat):Int):=by
  unfold zaE
  rw [ztQ,ztQ]
  have:(BitVec.ofNat IntKind.u64.bits a ||| BitVec.ofNat IntKind.u64.bits b).toNat=a ||| b:=by
    rw [BitVec.toNat_or,BitVec.toNat_ofNat,BitVec.toNat_ofNat]
    show a % 2 ^ 64 ||| b % 2 ^ 64=_
    rw [Nat.mod_eq_of_lt ha,Nat.mod_eq_of_lt hb]
  rw [this]
  exact ztS (Nat.or_lt_two_pow ha hb)
theorem ztW {a b:Nat} (ha:a < 2 ^ 63):zaE .andNot .i64 a b=((ztL a b:Nat):Int):=by
  unfold zaE
  rw [ztQ,ztQ]
  exact ztR (Nat.lt_of_le_of_lt (ztO (b:=b) (by omega)) ha)
theorem ztX {a b:Nat} (ha:a < 2 ^ 64):zaE .andNot .u64 a b=((ztL a b:Nat):Int):=by
  unfold zaE
  rw [ztQ,ztQ]
  exact ztS (Nat.lt_of_le_of_lt (ztO (b:=b) ha) ha)
section
variable {both:Nat→Nat→Bool}
def Cliq (both:Nat→Nat→Bool) (s:Nat):Prop:=∀ i k,s.testBit i=true→s.testBit k=true→k < i→both i k=true
def ztY (both:Nat→Nat→Bool) (s m:Nat):Prop:=CovOn both (fun i=>s.testBit i=true) m∧∀ m',CovOn both (fun i=>s.testBit i=true) m'→m≤m'
theorem ztZ:ztY both 0 0:=⟨⟨fun _=>0,fun i hi=>by simp at hi,fun i k hi=>by simp at hi⟩,fun _ _=>Nat.zero_le _⟩
def zt0 (both:Nat→Nat→Bool) (ls:Nat→Nat) (n set rest l cur part:Nat):Prop :=
  CovOn both (fun i=>set.testBit i=true) cur∧cur≤n∧∀ q,subN q rest→part < q→Cliq both (q ||| 2 ^ l)→cur≤1+ls (ztL rest q)
theorem zt1 {q l i:Nat}:(q ||| 2 ^ l).testBit i=(q.testBit i || decide (l=i)):=by rw [Nat.testBit_or,Nat.testBit_two_pow]
theorem zt2 {s l i:Nat} (h:s < 2 ^ l) (hi:s.testBit i=true):i < l:=by
  rcases Nat.lt_or_ge i l with h1|h1
  · exact h1
  · rw [Nat.testBit_lt_two_pow (Nat.lt_of_lt_of_le h (Nat.pow_le_pow_right (by decide) h1))] at hi;cases hi
variable {ls:Nat→Nat} {n set rest l:Nat}
theorem zt3 (hn:set < 2 ^ n):zt0 both ls n set rest l n rest :=
  ⟨CovOn.id fun i hi=>zt2 hn hi,Nat.le_refl _,fun q hq hlt=>absurd (ztI hq) (by omega)⟩
theorem zt4 {cur part:Nat} (H:zt0 both ls n set rest l cur part) (hset:∀ i,set.testBit i=true ↔ (rest.testBit i=true∨i=l)) (hr:rest < 2 ^ l) (hl:l < 64) (hp:subN part rest)
    (hls:∀ s,s≤rest→ztY both s (ls s)) (hc:Cliq both (part ||| 2 ^ l)):CovOn both (fun i=>set.testBit i=true) (min cur (1+ls (ztL rest part))):=by
  have hr64:rest < 2 ^ 64:=Nat.lt_of_lt_of_le hr (Nat.pow_le_pow_right (by decide) (by omega))
  rcases Nat.le_total cur (1+ls (ztL rest part)) with h|h
  · rw [Nat.min_eq_left h];exact H.1
  · rw [Nat.min_eq_right h]
    refine CovOn.add (r:=fun i=>rest.testBit i=true) (q:=fun i=>part.testBit i=true) (l:=l) (fun i hi=>((hset i).1 hi).symm) (fun i hi=>zt2 hr hi) (fun i hi hq=>hc l i (by rw [zt1];simp) (by rw [zt1,hq];rfl) (zt2 hr hi)) (fun i k hi hk hq hqk hki=>hc i k (by rw [zt1,hq];rfl) (by rw [zt1,hqk];rfl) hki) ?_
    obtain ⟨g,h1,h2⟩:=(hls _ (ztO (b:=part) hr64)).1
    have e:∀ i,(ztL rest part).testBit i=true ↔ (rest.testBit i=true∧¬ part.testBit i=true):=fun i=>by rw [ztM hr64];simp
    exact ⟨g,fun i hi=>h1 i ((e i).2 hi),fun i k hi hk=>h2 i k ((e i).2 hi) ((e k).2 hk)⟩
theorem zt5 {cur cur' part:Nat} (H:zt0 both ls n set rest l cur part) (hp:subN part rest) (hcov:CovOn both (fun i=>set.testBit i=true) cur') (hle:cur'≤cur) (hc:Cliq both (part ||| 2 ^ l)→cur'≤1+ls (ztL rest part)) :
    zt0 both ls n set rest l cur' ((part - 1) &&& rest):=by
  refine ⟨hcov,Nat.le_trans hle H.2.1,fun q hq hlt hcl=>?_⟩
  rcases Nat.lt_trichotomy q part with h|rfl|h
  · exact absurd (ztJ hq hp h) (by omega)
  · exact hc hcl
  · exact Nat.le_trans hle (H.2.2 q hq h hcl)
theorem zt6 {cur:Nat} (hcov:CovOn both (fun i=>set.testBit i=true) cur) (hall:∀ q,subN q rest→Cliq both (q ||| 2 ^ l)→cur≤1+ls (ztL rest q)) (hset:∀ i,set.testBit i=true ↔ (rest.testBit i=true∨i=l)) (hr:rest < 2 ^ l) (hl:l < 64)
    (hls:∀ s,s≤rest→ztY both s (ls s)):ztY both set cur:=by
  have hr64:rest < 2 ^ 64:=Nat.lt_of_lt_of_le hr (Nat.pow_le_pow_right (by decide) (by omega))
  refine ⟨hcov,fun m' hm=>?_⟩
  obtain ⟨Q,h0,h1,h2,h3⟩:=CovOn.cut (r:=fun i=>rest.testBit i=true) ((hset l).2 (.inr rfl)) (fun i hi=>(hset i).2 (.inl hi)) (fun i hi=>zt2 hr hi) hm
  obtain ⟨q,hq⟩:=ztK Q rest
  have hsub:subN q rest:=fun i hi=>((hq i).1 hi).1
  have hcl:Cliq both (q ||| 2 ^ l):=by
    intro i k hi hk hki
    rw [zt1,Bool.or_eq_true,decide_eq_true_eq] at hi hk
    rcases hi with hi|rfl
    · rcases hk with hk|rfl
      · exact h2 i k ((hq i).1 hi).1 ((hq k).1 hk).1 ((hq i).1 hi).2 ((hq k).1 hk).2 hki
      · have:=zt2 hr ((hq i).1 hi).1;omega
    · rcases hk with hk|rfl
      · exact h1 k ((hq k).1 hk).1 ((hq k).1 hk).2
      · omega
  have h4:=hall q hsub hcl
  have h5:=(hls _ (ztO (b:=q) hr64)).2 (m' - 1) (by
    obtain ⟨g,g1,g2⟩:=h3
    have e:∀ i,(ztL rest q).testBit i=true→(rest.testBit i=true∧¬ Q i):=fun i hi=>by
      rw [ztM hr64] at hi
      simp only [Bool.and_eq_true,Bool.not_eq_true'] at hi
      refine ⟨hi.1,fun hQ=>?_⟩
      rw [(hq i).2 ⟨hi.1,hQ⟩] at hi;cases hi.2
    exact ⟨g,fun i hi=>g1 i (e i hi),fun i k hi hk=>g2 i k (e i hi) (e k hk)⟩)
  omega
theorem zt7 {q:Nat} (hr:subN q rest) (hlt:rest < 2 ^ l):Cliq both (q ||| 2 ^ l) ↔ Cliq both q∧∀ k,q.testBit k=true→both l k=true:=by
  constructor
  · intro h
    exact ⟨fun i k hi hk=>h i k (by rw [zt1,hi];rfl) (by rw [zt1,hk];rfl),fun k hk=>h l k (by rw [zt1];simp) (by rw [zt1,hk];rfl) (zt2 hlt (hr k hk))⟩
  · rintro ⟨h1,h2⟩ i k hi hk hki
    rw [zt1,Bool.or_eq_true,decide_eq_true_eq] at hi hk
    rcases hi with hi|rfl
    · rcases hk with hk|rfl
      · exact h1 i k hi hk hki
      · have:=zt2 hlt (hr i hi);omega
    · rcases hk with hk|rfl
      · exact h2 k hk
      · omega
end
end Go.SL
namespace Go.SL
open Go Go.RowKit
def zt8 (p:Nat→Bool):Nat→Nat
  | 0=>0
  | k+1=>zt8 p k ||| (if p k=true then 2 ^ k else 0)
theorem zt9 {p:Nat→Bool} {i:Nat}:∀ {k:Nat},(zt8 p k).testBit i=(decide (i < k) && p i)
  | 0=>by simp [zt8]
  | k+1=>by
    unfold zt8
    rw [Nat.testBit_or,zt9]
    by_cases hp:p k=true
    · rw [if_pos hp,Nat.testBit_two_pow]
      by_cases hk:k=i
      · subst hk;simp [hp]
      · have:decide (i < k+1)=decide (i < k):=by simp;omega
        simp [hk,this]
    · rw [if_neg hp,Nat.zero_testBit,Bool.or_false]
      by_cases hk:k=i
      · subst hk;simp [hp]
      · have:decide (i < k+1)=decide (i < k):=by simp;omega
        rw [this]
theorem zua {p:Nat→Bool} {k:Nat}:zt8 p k < 2 ^ k:=by
  apply Nat.lt_pow_two_of_testBit
  intro i hi
  rw [zt9,decide_eq_false (by omega)];rfl
end Go.SL
namespace Go.SL
open Go Go.RowKit
def RowAt {α:Type} [Enc α] (e:TypeId) (h:Hp) (s:Sl α):Prop :=
  s.l.length≤s.cap∧s.cap≤maxLen∧((s.a=none∧s.l=[]∧s.cap=0)∨∃ g cur,s.a=some ⟨g,0,none⟩∧h g=some (.cells cur e (0,0))∧cur.size=s.cap * Enc.size α∧cur.toList.take (s.l.length * Enc.size α)=s.l.flatMap Enc.enc)
def zub {α:Type} (h:Hp) (s:Sl α):Hp:=match s.a with|some a=>h.del a.block|none=>h
section
variable {α:Type} [Enc α]
theorem RowAt.ok {e:TypeId} {h:Hp} {s:Sl α} (hp:0 < Enc.size α) (H:RowAt e h s) (hok:∀ x ∈ s.l,Enc.ok h x):s.Ok h:=by
  obtain ⟨h1,h2,⟨ha,hl,hc⟩|⟨g,cur,ha,hb,hsz,htk⟩⟩:=H
  · refine ⟨h1,fun hne=>(hne hl).elim,fun i x hx=>by rw [hl] at hx;simp at hx,hok,h2⟩
  · refine ⟨h1,fun _=>by rw [ha];rfl,fun i x hx=>?_,hok,h2⟩
    have hi:i < s.l.length:=(List.getElem?_eq_some_iff.1 hx).1
    rw [ha]
    refine zad (Enc.len x) fun j v hj=>?_
    have hjl:j < Enc.size α:=by rw [← Enc.len x];exact (List.getElem?_eq_some_iff.1 hj).1
    have hfl:(s.l.flatMap Enc.enc)[i * Enc.size α+j]?=some v:=by
      rw [zio Enc.len hp]
      have e1:(i * Enc.size α+j) / Enc.size α=i:=by rw [Nat.add_comm,Nat.add_mul_div_right _ _ hp,Nat.div_eq_of_lt hjl,Nat.zero_add]
      have e2:(i * Enc.size α+j) % Enc.size α=j:=by rw [Nat.add_comm,Nat.add_mul_mod_self_right,Nat.mod_eq_of_lt hjl]
      rw [e1,e2,hx]
      exact hj
    have hlt:i * Enc.size α+j < s.l.length * Enc.size α:=by
      have:(i+1) * Enc.size α≤s.l.length * Enc.size α:=Nat.mul_le_mul_right _ hi
      rw [Nat.add_mul,Nat.one_mul] at this
      omega
    rw [← htk,List.getElem?_take,if_pos hlt] at hfl
    simp only [Option.map_some]
    rw [zir,Nat.zero_add]
    have e3:(Addr.add ⟨g,0,none⟩ (i * Enc.size α+j))=⟨g,i * Enc.size α+j,none⟩:=by rw [za4];simp
    rw [e3]
    simp only [Hp.cell,hb,Option.isSome_none,Bool.false_eq_true,if_false]
    simpa using hfl
theorem RowAt.keep {e:TypeId} {h h':Hp} {s:Sl α} (H:RowAt e h s) (hk:∀ g,s.a=some ⟨g,0,none⟩→h' g=h g):RowAt e h' s:=by
  obtain ⟨h1,h2,H|⟨g,cur,ha,hb,hsz,htk⟩⟩:=H
  · exact ⟨h1,h2,.inl H⟩
  · exact ⟨h1,h2,.inr ⟨g,cur,ha,by rw [hk g ha];exact hb,hsz,htk⟩⟩
theorem Pub.row {h h':Hp} {e:TypeId} {l:List α} {ad:Option Addr} {cap:Nat} (H:Pub h e (Enc.size α) l.length (l.flatMap Enc.enc) ad cap h'):RowAt e h' (Sl.mk ad cap l)∧(∀ g,ad=some ⟨g,0,none⟩→h g=none)∧(∀ k,(∀ g,ad=some ⟨g,0,none⟩→k ≠ g)→h' k=h k):=by
  obtain ⟨h1,h2,h3,⟨ha,hn,hc,rfl⟩|⟨g,cur,rfl,hg,rfl,hsz,htk⟩⟩:=H
  · exact ⟨⟨h2,h3,.inl ⟨ha,List.length_eq_zero_iff.1 hn,hc⟩⟩,fun g e=>(by rw [ha] at e;cases e),fun k _=>rfl⟩
  · refine ⟨⟨h2,h3,.inr ⟨g,cur,rfl,Hp.ins_same,hsz,htk⟩⟩,fun g' e=>by cases e;exact hg,fun k hk=>Hp.ins_ne (hk g rfl)⟩
theorem zuc {x:Cx} {st:St} {t:Nat} {K:St→Prop} {s:Sl α} {e:TypeId} (ht:look t st.e=some (true,.c (.v s.val))) (H:RowAt e st.h s) (hown:∀ g,s.a=some ⟨g,0,none⟩→x.h0 g=none∨x.W0.own g)
    (hk:K ⟨(t,true,.c (.s st.nx)) :: st.e,(st.nx,.row e (Enc.size α) s.l.length (s.l.flatMap Enc.enc)) :: st.p,zub st.h s,st.nx+1⟩):zsr x st t K:=by
  obtain ⟨h1,h2,⟨ha,hl,hc⟩|⟨g,cur,ha,hb,hsz,htk⟩⟩:=H
  · refine zsC e (Enc.size α) (by rw [ht,Sl.val,ha,hl,hc];rfl) ?_
    rw [hl] at hk
    simpa [zub,ha] using hk
  · refine zsD (b:=g) (n:=s.l.length) (cap:=s.cap) (cur:=cur) (e:=e) (Enc.size α) (by rw [ht,Sl.val,ha]) hb (hown g ha) hsz h1 h2 ?_
    rw [htk]
    simpa [zub,ha] using hk
end
section
variable {α:Type} [Enc α]
theorem RowAt.addr {e:TypeId} {h:Hp} {s:Sl α} (H:RowAt e h s):∀ a,s.a=some a→a.off=0∧a.spot=none:=by
  intro a ha
  obtain ⟨h1,h2,⟨ha',_⟩|⟨g,cur,ha',_⟩⟩:=H
  · rw [ha] at ha';cases ha'
  · rw [ha] at ha';cases ha';exact ⟨rfl,rfl⟩
end
theorem zud {α:Type} {h:Hp} {s:Sl α} {k:Nat} (hk:∀ a,s.a=some a→k ≠ a.block):zub h s k=h k:=by
  rcases s with ⟨a,cap,l⟩
  cases a with
  | none=>rfl
  | some a=>exact Hp.del_ne (hk a rfl)
end Go.SL
namespace Go.SL
open Go Go.RowKit
structure U64 where
  n:Nat
deriving DecidableEq
instance:Enc U64 where
  size:=1
  enc u:=[.int .u64 u.n]
  len _:=rfl
  one n u hu:=by simp only [List.mem_singleton] at hu;subst hu;rfl
  ok _ u:=u.n < 2 ^ 63
  mono _ H:=H
@[go_sem] theorem zue {b:U64}:Enc.enc b=[.int .u64 b.n]:=rfl
theorem zuf {h:Hp} {s:Sl U64} (H:s.Ok h) {i:Nat} (hi:i < s.l.length):h.lds (Option.map (·.add (i * 1)) s.a) 1=some [.int .u64 s.l[i].n]:=H.at hi
instance:Foot U64:=⟨fun _=>[],fun _ _=>True,fun H _ _=>⟨H,trivial⟩,fun _ b hb=>by cases hb⟩
theorem zug {α:Type} {l:List α} {i:Nat} {a:α} (hi:i < l.length):List.take i l ++ a :: List.drop (i+1) l=l.set i a:=by rw [List.set_eq_take_append_cons_drop,if_pos hi]
theorem zuh (l:List U64):l.flatMap Enc.enc=l.map fun u=>Value.int .u64 u.n:=by induction l with|nil=>rfl|cons x l ih=>rw [List.flatMap_cons,ih];rfl
theorem zui (l:List Int):l.flatMap Enc.enc=l.map fun u=>Value.int .i64 u:=by induction l with|nil=>rfl|cons x l ih=>rw [List.flatMap_cons,ih];rfl
end Go.SL
namespace Go.SL
open Go Go.RowKit
theorem zuj {x:Cx} {st:St} {c d:Code} {Q:Exit→St→Prop} (h:T x st d Q):T x st (.cond (.const (.bool false)) c d) Q:=by
  unfold T at *
  intro a W hC
  exact wp_cond_split (t:=false) (by simp [Act.eval]) (fun e=>by cases e) (fun _=>h a W hC)
end Go.SL
