/- Plain theorems about the model. -/
import Derived.Test.YtbkaaakphpbmiaaGreatSGBestPlanx15
set_option linter.unusedVariables false
set_option linter.unusedSimpArgs false
set_option maxRecDepth 4000
open Nat renaming reduceAdd → jq, reduceMul → jj, reduceBEq → jy, reduceLeDiff → jv, reduceLT → jk, reduceEqDiff → jx
open Bool renaming or_eq_false_iff → jp, or_eq_true → jQ, and_eq_true → jJ
open Int renaming toNat_natCast → jW, natCast_nonneg → jY
namespace Go.SL
open Go Go.RowKit
def subN (a b:Nat):Prop:=∀ i,a.testBit i=true→b.testBit i=true
theorem zzv {a b:Nat} (h:subN a b):subN (a / 2) (b / 2):=fun i hi=>by
 have:=h (i+1) (by rw [Nat.testBit_succ];exact hi)
 rwa [Nat.testBit_succ] at this
theorem zzw {a b:Nat} (h:subN a b):a % 2≤b % 2:=by
 have:=h 0
 simp only [Nat.testBit_zero,decide_eq_true_eq] at this
 rcases Nat.mod_two_eq_zero_or_one a with h1|h1
 ·omega
 ·have:=this h1;omega
theorem zzx (a b:Nat):a &&& b=2 * (a / 2 &&& b / 2)+(if a % 2=1∧b % 2=1 then 1 else 0):=by
 have e1:(a &&& b) / 2=a / 2 &&& b / 2:=by
  apply Nat.eq_of_testBit_eq
  intro i
  rw [← Nat.testBit_succ,Nat.testBit_and,Nat.testBit_and,Nat.testBit_succ,Nat.testBit_succ]
 have e2:(a &&& b) % 2=if a % 2=1∧b % 2=1 then 1 else 0:=by
  have:=Nat.testBit_and a b 0
  simp only [Nat.testBit_zero] at this
  rcases Nat.mod_two_eq_zero_or_one (a &&& b) with h|h <;> rcases Nat.mod_two_eq_zero_or_one a with h1|h1 <;> rcases Nat.mod_two_eq_zero_or_one b with h2|h2 <;> simp [h,h1,h2] at this ⊢
 rw [← e1,← e2];omega
theorem zzy:∀ {a b:Nat},subN a b→a≤b:=by
 intro a b
 induction b using Nat.strongRecOn generalizing a with
 | ind b ih =>
  intro h
  rcases Nat.eq_zero_or_pos b with rfl|hb
  ·rcases Nat.eq_zero_or_pos a with rfl|ha
   ·exact Nat.le_refl _
   ·obtain ⟨i,hi⟩:=Nat.exists_testBit_of_ne_zero (by omega:a ≠ 0)
    have:=h i hi
    simp at this
  ·have h1:=ih (b / 2) (by omega) (zzv h)
   have h2:=zzw h
   omega
theorem zzz:∀ {part rest q:Nat},subN q rest→subN part rest→q < part→q≤(part - 1) &&& rest:=by
 intro part
 induction part using Nat.strongRecOn with
 | ind part ih =>
  intro rest q hq hp hlt
  rw [zzx]
  have h1:=zzw hq
  have h2:=zzw hp
  rcases Nat.mod_two_eq_zero_or_one part with ho|ho
  ·have e1:(part - 1) / 2=part / 2 - 1:=by omega
   have e2:(part - 1) % 2=1:=by omega
   have:=ih (part / 2) (by omega) (zzv hq) (zzv hp) (by omega)
   rw [e1,e2]
   simp only [true_and]
   split <;> omega
  ·have e1:(part - 1) / 2=part / 2:=by omega
   have e2:(part - 1) % 2=0:=by omega
   have e3:part / 2 &&& rest / 2=part / 2:=by
    apply Nat.eq_of_testBit_eq
    intro i
    rw [Nat.testBit_and]
    cases h:(part / 2).testBit i
    ·rfl
    ·rw [zzv hp i h];rfl
   rw [e1,e2,e3]
   simp only [Nat.zero_ne_one,false_and,if_false]
   omega
theorem zzA (Q:Nat→Prop):∀ (rest:Nat),∃ q:Nat,∀ i,q.testBit i=true ↔ (rest.testBit i=true∧Q i):=by
 intro rest
 induction rest using Nat.strongRecOn generalizing Q with
 | ind rest ih =>
  rcases Nat.eq_zero_or_pos rest with rfl|hr
  ·exact ⟨0,fun i=>by simp⟩
  ·obtain ⟨q,hq⟩:=ih (rest / 2) (by omega) (fun i=>Q (i+1))
   open Classical in
   refine ⟨2 * q+(if rest % 2=1∧Q 0 then 1 else 0),fun i=>?_⟩
   cases i with
   | zero =>
    simp only [Nat.testBit_zero,decide_eq_true_eq]
    split
    ·rename_i h;simp [h]
    ·rename_i h
     constructor
     ·intro e;omega
     ·intro e;exact (h e).elim
   | succ i =>
    rw [Nat.testBit_succ,Nat.testBit_succ]
    have:(2 * q+(if rest % 2=1∧Q 0 then 1 else 0)) / 2=q:=by split <;> omega
    rw [this];exact hq i
def zzB (a b:Nat):Nat:=(BitVec.ofNat 64 a &&& ~~~BitVec.ofNat 64 b).toNat
theorem zzC {a b i:Nat} (ha:a < 2 ^ 64):(zzB a b).testBit i=(a.testBit i && !b.testBit i):=by
 unfold zzB
 rw [← BitVec.getLsbD,BitVec.getLsbD_and,BitVec.getLsbD_not,BitVec.getLsbD_ofNat,BitVec.getLsbD_ofNat]
 by_cases hi:i < 64
 ·simp [hi]
 ·have:a.testBit i=false:=Nat.testBit_lt_two_pow (Nat.lt_of_lt_of_le ha (Nat.pow_le_pow_right (by decide) (by omega)))
  simp [hi,this]
theorem zzD {a b:Nat} (ha:a < 2 ^ 64):subN (zzB a b) a:=fun i hi=>by rw [zzC ha,jJ] at hi;exact hi.1
theorem zzE {a b:Nat} (ha:a < 2 ^ 64):zzB a b≤a:=zzy (zzD ha)
theorem zzF {a b:Nat} (ha:a < 2 ^ 64):zzB a b=0 ↔ subN a b:=by
 constructor
 ·intro h i hi
  have:=zzC (i:=i) (b:=b) ha
  rw [h,hi] at this
  simpa using this.symm
 ·intro h
  apply Nat.eq_of_testBit_eq
  intro i
  rw [zzC ha,Nat.zero_testBit]
  cases hi:a.testBit i
  ·rfl
  ·rw [h i hi];rfl
theorem zzG {k:IntKind} {a:Nat}:BitVec.ofInt k.bits (a:Int)=BitVec.ofNat k.bits a:=by
 apply BitVec.eq_of_toNat_eq;simp [BitVec.toNat_ofInt,BitVec.toNat_ofNat]
theorem zzH {a:Nat} (h:a < 2 ^ 63):IntKind.i64.wrap (a:Int)=a:=zjz (by omega)
theorem zzI {a:Nat} (h:a < 2 ^ 64):IntKind.u64.wrap (a:Int)=a:=by
 show ((a:Int) % (2 ^ 64:Int))=a
 omega
theorem zzJ {a b:Nat} (ha:a < 2 ^ 63) (hb:b < 2 ^ 63):zaE .and .i64 a b=((a &&& b:Nat):Int):=by
 unfold zaE
 rw [zzG,zzG]
 have:(BitVec.ofNat IntKind.i64.bits a &&& BitVec.ofNat IntKind.i64.bits b).toNat=a &&& b:=by
  rw [BitVec.toNat_and,BitVec.toNat_ofNat,BitVec.toNat_ofNat]
  show a % 2 ^ 64 &&& b % 2 ^ 64=_
  rw [Nat.mod_eq_of_lt (by omega),Nat.mod_eq_of_lt (by omega)]
 rw [this]
 exact zzH (Nat.lt_of_le_of_lt Nat.and_le_left ha)
theorem zzK {a b:Nat} (ha:a < 2 ^ 63) (hb:b < 2 ^ 63):zaE .or .i64 a b=((a ||| b:Nat):Int):=by
 unfold zaE
 rw [zzG,zzG]
 have:(BitVec.ofNat IntKind.i64.bits a ||| BitVec.ofNat IntKind.i64.bits b).toNat=a ||| b:=by
  rw [BitVec.toNat_or,BitVec.toNat_ofNat,BitVec.toNat_ofNat]
  show a % 2 ^ 64 ||| b % 2 ^ 64=_
  rw [Nat.mod_eq_of_lt (by omega),Nat.mod_eq_of_lt (by omega)]
 rw [this]
 exact zzH (Nat.or_lt_two_pow ha hb)
theorem zzL {a b:Nat} (ha:a < 2 ^ 64) (hb:b < 2 ^ 64):zaE .or .u64 a b=((a ||| b:Nat):Int):=by
 unfold zaE
 rw [zzG,zzG]
 have:(BitVec.ofNat IntKind.u64.bits a ||| BitVec.ofNat IntKind.u64.bits b).toNat=a ||| b:=by
  rw [BitVec.toNat_or,BitVec.toNat_ofNat,BitVec.toNat_ofNat]
  show a % 2 ^ 64 ||| b % 2 ^ 64=_
  rw [Nat.mod_eq_of_lt ha,Nat.mod_eq_of_lt hb]
 rw [this]
 exact zzI (Nat.or_lt_two_pow ha hb)
theorem zzM {a b:Nat} (ha:a < 2 ^ 63):zaE .andNot .i64 a b=((zzB a b:Nat):Int):=by
 unfold zaE
 rw [zzG,zzG]
 exact zzH (Nat.lt_of_le_of_lt (zzE (b:=b) (by omega)) ha)
theorem zzN {a b:Nat} (ha:a < 2 ^ 64):zaE .andNot .u64 a b=((zzB a b:Nat):Int):=by
 unfold zaE
 rw [zzG,zzG]
 exact zzI (Nat.lt_of_le_of_lt (zzE (b:=b) ha) ha)
section
variable {both:Nat→Nat→Bool}
def Cliq (both:Nat→Nat→Bool) (s:Nat):Prop:=∀ i k,s.testBit i=true→s.testBit k=true→k < i→both i k=true
def zzO (both:Nat→Nat→Bool) (s m:Nat):Prop:=CovOn both (fun i=>s.testBit i=true) m∧∀ m',CovOn both (fun i=>s.testBit i=true) m'→m≤m'
theorem zzP:zzO both 0 0:=⟨⟨fun _=>0,fun i hi=>by simp at hi,fun i k hi=>by simp at hi⟩,fun _ _=>Nat.zero_le _⟩
def zzQ (both:Nat→Nat→Bool) (ls:Nat→Nat) (n set rest l cur part:Nat):Prop :=
 CovOn both (fun i=>set.testBit i=true) cur∧cur≤n∧∀ q,subN q rest→part < q→Cliq both (q ||| 2 ^ l)→cur≤1+ls (zzB rest q)
theorem zzR {q l i:Nat}:(q ||| 2 ^ l).testBit i=(q.testBit i || decide (l=i)):=by rw [Nat.testBit_or,Nat.testBit_two_pow]
theorem zzS {s l i:Nat} (h:s < 2 ^ l) (hi:s.testBit i=true):i < l:=by
 rcases Nat.lt_or_ge i l with h1|h1
 ·exact h1
 ·rw [Nat.testBit_lt_two_pow (Nat.lt_of_lt_of_le h (Nat.pow_le_pow_right (by decide) h1))] at hi;cases hi
variable {ls:Nat→Nat} {n set rest l:Nat}
theorem zzT (hn:set < 2 ^ n):zzQ both ls n set rest l n rest :=
 ⟨CovOn.id fun i hi=>zzS hn hi,Nat.le_refl _,fun q hq hlt=>absurd (zzy hq) (by omega)⟩
theorem zzU {cur part:Nat} (H:zzQ both ls n set rest l cur part) (hset:∀ i,set.testBit i=true ↔ (rest.testBit i=true∨i=l)) (hr:rest < 2 ^ l) (hl:l < 64) (hp:subN part rest)
  (hls:∀ s,s≤rest→zzO both s (ls s)) (hc:Cliq both (part ||| 2 ^ l)):CovOn both (fun i=>set.testBit i=true) (min cur (1+ls (zzB rest part))):=by
 have hr64:rest < 2 ^ 64:=Nat.lt_of_lt_of_le hr (Nat.pow_le_pow_right (by decide) (by omega))
 rcases Nat.le_total cur (1+ls (zzB rest part)) with h|h
 ·rw [Nat.min_eq_left h];exact H.1
 ·rw [Nat.min_eq_right h]
  refine CovOn.add (r:=fun i=>rest.testBit i=true) (q:=fun i=>part.testBit i=true) (l:=l) (fun i hi=>((hset i).1 hi).symm) (fun i hi=>zzS hr hi) (fun i hi hq=>hc l i (by rw [zzR];simp) (by rw [zzR,hq];rfl) (zzS hr hi)) (fun i k hi hk hq hqk hki=>hc i k (by rw [zzR,hq];rfl) (by rw [zzR,hqk];rfl) hki) ?_
  obtain ⟨g,h1,h2⟩:=(hls _ (zzE (b:=part) hr64)).1
  have e:∀ i,(zzB rest part).testBit i=true ↔ (rest.testBit i=true∧¬ part.testBit i=true):=fun i=>by rw [zzC hr64];simp
  exact ⟨g,fun i hi=>h1 i ((e i).2 hi),fun i k hi hk=>h2 i k ((e i).2 hi) ((e k).2 hk)⟩
theorem zzV {cur cur' part:Nat} (H:zzQ both ls n set rest l cur part) (hp:subN part rest) (hcov:CovOn both (fun i=>set.testBit i=true) cur') (hle:cur'≤cur) (hc:Cliq both (part ||| 2 ^ l)→cur'≤1+ls (zzB rest part)) :
  zzQ both ls n set rest l cur' ((part - 1) &&& rest):=by
 refine ⟨hcov,Nat.le_trans hle H.2.1,fun q hq hlt hcl=>?_⟩
 rcases Nat.lt_trichotomy q part with h|rfl|h
 ·exact absurd (zzz hq hp h) (by omega)
 ·exact hc hcl
 ·exact Nat.le_trans hle (H.2.2 q hq h hcl)
theorem zzW {cur:Nat} (hcov:CovOn both (fun i=>set.testBit i=true) cur) (hall:∀ q,subN q rest→Cliq both (q ||| 2 ^ l)→cur≤1+ls (zzB rest q)) (hset:∀ i,set.testBit i=true ↔ (rest.testBit i=true∨i=l)) (hr:rest < 2 ^ l) (hl:l < 64)
  (hls:∀ s,s≤rest→zzO both s (ls s)):zzO both set cur:=by
 have hr64:rest < 2 ^ 64:=Nat.lt_of_lt_of_le hr (Nat.pow_le_pow_right (by decide) (by omega))
 refine ⟨hcov,fun m' hm=>?_⟩
 obtain ⟨Q,h0,h1,h2,h3⟩:=CovOn.cut (r:=fun i=>rest.testBit i=true) ((hset l).2 (.inr rfl)) (fun i hi=>(hset i).2 (.inl hi)) (fun i hi=>zzS hr hi) hm
 obtain ⟨q,hq⟩:=zzA Q rest
 have hsub:subN q rest:=fun i hi=>((hq i).1 hi).1
 have hcl:Cliq both (q ||| 2 ^ l):=by
  intro i k hi hk hki
  rw [zzR,jQ,decide_eq_true_eq] at hi hk
  rcases hi with hi|rfl
  ·rcases hk with hk|rfl
   ·exact h2 i k ((hq i).1 hi).1 ((hq k).1 hk).1 ((hq i).1 hi).2 ((hq k).1 hk).2 hki
   ·have:=zzS hr ((hq i).1 hi).1;omega
  ·rcases hk with hk|rfl
   ·exact h1 k ((hq k).1 hk).1 ((hq k).1 hk).2
   ·omega
 have h4:=hall q hsub hcl
 have h5:=(hls _ (zzE (b:=q) hr64)).2 (m' - 1) (by
  obtain ⟨g,g1,g2⟩:=h3
  have e:∀ i,(zzB rest q).testBit i=true→(rest.testBit i=true∧¬ Q i):=fun i hi=>by
   rw [zzC hr64] at hi
   simp only [jJ,Bool.not_eq_true'] at hi
   refine ⟨hi.1,fun hQ=>?_⟩
   rw [(hq i).2 ⟨hi.1,hQ⟩] at hi;cases hi.2
  exact ⟨g,fun i hi=>g1 i (e i hi),fun i k hi hk=>g2 i k (e i hi) (e k hk)⟩)
 omega
theorem zzX {q:Nat} (hr:subN q rest) (hlt:rest < 2 ^ l):Cliq both (q ||| 2 ^ l) ↔ Cliq both q∧∀ k,q.testBit k=true→both l k=true:=by
 constructor
 ·intro h
  exact ⟨fun i k hi hk=>h i k (by rw [zzR,hi];rfl) (by rw [zzR,hk];rfl),fun k hk=>h l k (by rw [zzR];simp) (by rw [zzR,hk];rfl) (zzS hlt (hr k hk))⟩
 ·rintro ⟨h1,h2⟩ i k hi hk hki
  rw [zzR,jQ,decide_eq_true_eq] at hi hk
  rcases hi with hi|rfl
  ·rcases hk with hk|rfl
   ·exact h1 i k hi hk hki
   ·have:=zzS hlt (hr i hi);omega
  ·rcases hk with hk|rfl
   ·exact h2 k hk
   ·omega
end
open Go Go.RowKit
def zzY (p:Nat→Bool):Nat→Nat
 | 0=>0
 | k+1=>zzY p k ||| (if p k=true then 2 ^ k else 0)
theorem zzZ {p:Nat→Bool} {i:Nat}:∀ {k:Nat},(zzY p k).testBit i=(decide (i < k) && p i)
 | 0=>by simp [zzY]
 | k+1=>by
  unfold zzY
  rw [Nat.testBit_or,zzZ]
  by_cases hp:p k=true
  ·rw [if_pos hp,Nat.testBit_two_pow]
   by_cases hk:k=i
   ·subst hk;simp [hp]
   ·have:decide (i < k+1)=decide (i < k):=by simp;omega
    simp [hk,this]
  ·rw [if_neg hp,Nat.zero_testBit,Bool.or_false]
   by_cases hk:k=i
   ·subst hk;simp [hp]
   ·have:decide (i < k+1)=decide (i < k):=by simp;omega
    rw [this]
theorem zz0 {p:Nat→Bool} {k:Nat}:zzY p k < 2 ^ k:=by
 apply Nat.lt_pow_two_of_testBit
 intro i hi
 rw [zzZ,decide_eq_false (by omega)];rfl
end Go.SL
