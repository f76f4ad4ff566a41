/- What functions of the given program compute, as contracts. -/
import Derived.Test.YtbkaaakphpbmiaaGreatSAfterReadingx18
import Derived.Test.YtbkaaakphpbmiaaGreatSAfterReadingx7
import Derived.Test.YtbkaaakphpbmiaaGreatXAfterReading15
import Derived.Test.YtbkaaakphpbmiaaGreatXAfterReading17
import Derived.Test.YtbkaaakphpbmiaaGreatXAfterReading8
import Derived.Test.YtbkaaakphpbmiaaGreatXAfterReading9
set_option linter.unusedVariables false
set_option linter.unusedSimpArgs false
set_option maxRecDepth 4000
open Nat renaming reduceAdd → jq, reduceMul → jj, reduceBEq → jy, reduceLeDiff → jv, reduceLT → jk, reduceEqDiff → jx
open Bool renaming or_eq_false_iff → jp, or_eq_true → jQ, and_eq_true → jJ
open Int renaming toNat_natCast → jW, natCast_nonneg → jY
namespace Go.Proofs.YtbkaaakphpbmiaaGreat
open Go Go.SL
set_option maxHeartbeats 1000000
def voOk (f:PForecast) (c:PChart) (s:DShip) (a:Int) (r:List Int):Bool:=zuY f && zvj s && zxf c a r && decide (0 < r.length)
def zyl (c:PChart) (pts:List Int) (k:Nat):List Bool:=(List.range k).map fun i=>(c.points.getD (pts.getD i 0).toNat dP).wait
def minL (c:PChart) (s:DShip) (r:List Int) (k:Nat):List Int:=(List.range k).map fun i=>zvG s (c.segments.getD (r.getD i 0).toNat dG)
def zym (f:PForecast) (c:PChart) (s:DShip) (r:List Int) (k:Nat):List (List DWindow):=(List.range k).map fun i=>zwO f c (r.getD i 0) s
theorem zyp {l:List DWindow} {t:Int} (h:0≤zwc l t):t≤zwc l t:=by
 unfold zwc at h ⊢
 split
 ·split
  ·exact Int.le_max_right _ _
  ·rename_i h1 _ h2;rw [if_pos h1] at h;simp only [h2] at h;omega
 ·rename_i h1;rw [if_neg h1] at h;omega
def zyr (w:List Bool) (m:List Int) (u:List (List DWindow)) (k:Nat) (l:List Int):Option (List Int) :=
 let t:=IntKind.i64.wrap (l.getD k 0+m.getD k 0)
 let n:=zwc (u.getD (k+1) []) t
 if n < 0∨(t < n∧w.getD (k+1) false=false) then none else some (l ++ [n])
def slK (w:List Bool) (m:List Int) (u:List (List DWindow)) (st:Int):Nat→Option (List Int)
 | 0=>some [st]
 | k+1=>(slK w m u st k).bind (zyr w m u k)
def zys (w:List Bool) (m:List Int) (u:List (List DWindow)) (st:Int):Option (List Int):=if zwb (u.getD 0 []) st=true then slK w m u st (u.length - 1) else none
theorem zyw {w:List Bool} {m:List Int} {u:List (List DWindow)} {st:Int}:∀ {k:Nat} {l:List Int},slK w m u st k=some l→l.length=k+1
 | 0,l,h=>by rw [slK] at h;rw [← Option.some.inj h];rfl
 | k+1,l,h=>by
  rw [slK] at h
  cases hk:slK w m u st k with
  | none=>rw [hk] at h;cases h
  | some p =>
   rw [hk,Option.bind_some] at h
   unfold zyr at h
   dsimp only at h
   split at h
   ·cases h
   ·rw [← Option.some.inj h,List.length_append,zyw hk];rfl
def zyB (f:PForecast) (c:PChart) (s:DShip) (a:Int) (r:List Int) (st:Int):Option (List Int):=if voOk f c s a r=true then zys (zyl c ((zwV c a r).getD []) r.length) (minL c s r r.length) (zym f c s r r.length) st else none
def zyD (x:PHarbour) (a:DCall):DShip:=x.fleet.getD a.ship.toNat dH
def zyH (ready arr:Int) (ms:List Int):Int:=ms.foldl (fun acc m=>IntKind.i64.wrap (acc - m)) (IntKind.i64.wrap (arr - ready))
theorem zJY {β:Type} [Sz β] {l:List β} {k:Nat} (h:∀ y ∈ l,Sz.sz y≤k):Sz.sz l≤l.length+l.length * k:=by
 rw [zmu]
 have:(l.map Sz.sz).sum≤l.length * k:=by
  induction l with
  | nil=>simp
  | cons x l ih =>
   rw [List.map_cons,List.sum_cons,List.length_cons,Nat.add_mul,Nat.one_mul]
   have h1:=h x (List.mem_cons_self ..)
   have h2:=ih fun y hy=>h y (List.mem_cons_of_mem _ hy)
   omega
 omega
theorem zzl {l:List DWindow} {m:Int} (hn:¬ zwc l m < 0):m≤zwc l m∧zwc l m≤2880:=by
 unfold zwc at hn ⊢
 split at hn
 ·rename_i hw
  rw [if_pos hw]
  split at hn
  ·rename_i w hf
   have h1:=List.find?_some hf
   have h1:m≤w.dst:=of_decide_eq_true h1
   obtain ⟨i,hi,e⟩:=List.getElem_of_mem (List.mem_of_find?_eq_some hf)
   have h2:=of_decide_eq_true hw i hi
   rw [zv9,decide_eq_true_eq,List.getD_eq_getElem?_getD,List.getElem?_eq_getElem hi,Option.getD_some,e] at h2
   omega
  ·exact absurd (show (-1:Int) < 0 by decide) hn
 ·exact absurd (show (-1:Int) < 0 by decide) hn
def zzm (m:List Int):Nat→Int
 | 0=>0
 | k+1=>zzm m k+m.getD k 0
theorem zzn {m:List Int} (hm:∀ i,i < m.length→1≤m.getD i 0∧m.getD i 0≤480):∀ {k:Nat},k≤m.length→0≤zzm m k∧zzm m k≤480 * k
 | 0,_=>⟨Int.le_refl _,by simp [zzm]⟩
 | k+1,hk=>by
  have h1:=zzn hm (k:=k) (by omega)
  have h2:=hm k (by omega)
  rw [zzm];omega
theorem zzo {w:List Bool} {m:List Int} {u:List (List DWindow)} {st:Int} (hst:0≤st∧st≤2880) (hm:∀ i,i < m.length→1≤m.getD i 0∧m.getD i 0≤480):∀ {k:Nat} {l:List Int},k≤m.length→slK w m u st k=some l→l.length=k+1∧(∀ i,i≤k→0≤l.getD i 0∧l.getD i 0≤2880)∧st+zzm m k≤l.getD k 0
 | 0,l,_,h=>by
  rw [slK] at h
  rw [← Option.some.inj h]
  refine ⟨rfl,fun i hi=>?_,?_⟩
  ·rw [Nat.le_zero.1 hi];exact hst
  ·rw [zzm,Int.add_zero];exact Int.le_refl _
 | k+1,l,hk,h=>by
  rw [slK] at h
  cases hp:slK w m u st k with
  | none=>rw [hp] at h;cases h
  | some p =>
   rw [hp,Option.bind_some] at h
   obtain ⟨h1,h2,h3⟩:=zzo hst hm (k:=k) (by omega) hp
   have h4:=hm k (by omega)
   have h5:=h2 k (Nat.le_refl _)
   unfold zyr at h
   dsimp only at h
   split at h
   ·cases h
   ·rename_i hc
    rw [not_or] at hc
    have h6:=zzl hc.1
    have hw:IntKind.i64.wrap (p.getD k 0+m.getD k 0)=p.getD k 0+m.getD k 0:=zjz (by omega)
    rw [hw] at h6 h
    have e:=Option.some.inj h
    generalize zwc (u.getD (k+1) []) (p.getD k 0+m.getD k 0)=nx at h6 e
    rw [← e]
    refine ⟨by rw [List.length_append,h1];rfl,fun i hi=>?_,?_⟩
    ·rcases Nat.lt_or_ge i (k+1) with hi2|hi2
     ·rw [List.getD_eq_getElem?_getD,List.getElem?_append_left (by omega),← List.getD_eq_getElem?_getD]
      exact h2 i (by omega)
     ·rw [show i=p.length by omega]
      have e2:(p ++ [nx]).getD p.length 0=nx:=by simp only [List.getD_eq_getElem?_getD,List.getElem?_concat_length,Option.getD_some]
      rw [e2]
      omega
    ·rw [show k+1=p.length by omega]
     have e2:(p ++ [nx]).getD p.length 0=nx:=by simp only [List.getD_eq_getElem?_getD,List.getElem?_concat_length,Option.getD_some]
     rw [e2,show p.length=k+1 by omega,zzm]
     omega
theorem zzp {m:List Int} (hm:∀ i,i < m.length→1≤m.getD i 0∧m.getD i 0≤480) (hl:m.length≤100) {z:Int} (hz:-1000000≤z∧z≤1000000):∀ {k:Nat},k≤m.length→(m.take k).foldl (fun acc y=>IntKind.i64.wrap (acc - y)) z=z - zzm m k
 | 0,_=>by simp [zzm]
 | k+1,hk=>by
  rw [List.take_succ_eq_append_getElem (by omega),List.foldl_append,List.foldl_cons,List.foldl_nil,zzp hm hl hz (k:=k) (by omega),zzm]
  have h1:=zzn hm (k:=k) (by omega)
  have h2:=hm k (by omega)
  have h3:m.getD k 0=m[k]'(by omega):=by rw [List.getD_eq_getElem?_getD,List.getElem?_eq_getElem (by omega)];rfl
  rw [← h3,zjz (by omega)]
  omega
theorem zzr {c:PChart} {s:DShip} {r:List Int} {n i:Nat} (hi:i < n):(minL c s r n).getD i 0=zvG s (c.segments.getD (r.getD i 0).toNat dG):=by
 rw [minL,List.getD_eq_getElem?_getD,List.getElem?_map,List.getElem?_range hi];rfl
end Go.Proofs.YtbkaaakphpbmiaaGreat
