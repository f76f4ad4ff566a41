/- Plain theorems about the model. -/
import Derived.Test.YtdeflkhkfmjckaaGreatSGFnTopx10
import Derived.Test.YtdeflkhkfmjckaaGreatSGFnTopx5
set_option linter.unusedVariables false
set_option linter.unusedSimpArgs false
set_option maxRecDepth 4000
open Nat renaming reduceAdd → jq, reduceMul → jj, reduceBEq → jy, reduceLeDiff → jv, reduceLT → jk, reduceEqDiff → jx
open Bool renaming or_eq_false_iff → jp, or_eq_true → jQ, and_eq_true → jJ
open Int renaming toNat_natCast → jW, natCast_nonneg → jY
namespace Go.SL
open Go Go.RowKit
def Asc (n:Nat) (l:List Nat):Prop:=l.Pairwise (· < ·)∧∀ x ∈ l,x < n
theorem zMy:∀ {l m:List Nat},l.Pairwise (· < ·)→m.Pairwise (· < ·)→(∀ x,x ∈ l ↔ x ∈ m)→l=m
 | [],[],_,_,_=>rfl
 | [],b :: m,_,_,h=>absurd ((h b).2 (List.mem_cons_self ..)) (by simp)
 | a :: l,[],_,_,h=>absurd ((h a).1 (List.mem_cons_self ..)) (by simp)
 | a :: l,b :: m,hl,hm,h=>by
  obtain ⟨h1,h2⟩:=List.pairwise_cons.1 hl
  obtain ⟨h3,h4⟩:=List.pairwise_cons.1 hm
  have e:a=b:=by
   rcases List.mem_cons.1 ((h a).1 (List.mem_cons_self ..)) with e|e
   ·exact e
   ·rcases List.mem_cons.1 ((h b).2 (List.mem_cons_self ..)) with e2|e2
    ·exact e2.symm
    ·have:=h3 a e;have:=h1 b e2;omega
  subst e
  congr 1
  refine zMy h2 h4 fun x=>⟨fun hx=>?_,fun hx=>?_⟩
  ·rcases List.mem_cons.1 ((h x).1 (List.mem_cons_of_mem _ hx)) with e|e
   ·have:=h1 x hx;omega
   ·exact e
  ·rcases List.mem_cons.1 ((h x).2 (List.mem_cons_of_mem _ hx)) with e|e
   ·have:=h3 x hx;omega
   ·exact e
def zMz (n bits:Nat):List Nat:=(List.range n).filter bits.testBit
theorem range_lt {n:Nat}:(List.range n).Pairwise (· < ·):=List.pairwise_lt_range
theorem zMA {n bits:Nat}:Asc n (zMz n bits):=⟨range_lt.filter _,fun x hx=>List.mem_range.1 (List.mem_filter.1 hx).1⟩
theorem zMB {n:Nat} {l:List Nat} (h:Asc n l):∃ bits,bits < 2 ^ n∧zMz n bits=l:=by
 refine ⟨zzY (fun i=>decide (i ∈ l)) n,zz0,zMy zMA.1 h.1 fun x=>?_⟩
 rw [zMz,List.mem_filter,List.mem_range,zzZ,jJ,decide_eq_true_eq,decide_eq_true_eq]
 exact ⟨fun hx=>hx.2.2,fun hx=>⟨h.2 x hx,h.2 x hx,hx⟩⟩
def sels:Nat→Nat→List (List Nat)
 | 0,_=>[[]]
 | s+1,n=>(List.range n).flatMap fun f=>(sels s (n - f - 1)).map fun r=>f :: r.map (f+1+·)
theorem zMC:∀ {s n:Nat} {l:List Nat},l ∈ sels s n ↔ l.length=s∧Asc n l
 | 0,n,l=>by
  rw [sels,List.mem_singleton]
  constructor
  ·rintro rfl;exact ⟨rfl,List.Pairwise.nil,fun x hx=>by cases hx⟩
  ·rintro ⟨h,_⟩;exact List.eq_nil_of_length_eq_zero h
 | s+1,n,l=>by
  rw [sels,List.mem_flatMap]
  constructor
  ·rintro ⟨f,hf,hl⟩
   have hf:=List.mem_range.1 hf
   obtain ⟨r,hr,rfl⟩:=List.mem_map.1 hl
   obtain ⟨h1,h2,h3⟩:=zMC.1 hr
   refine ⟨by rw [List.length_cons,List.length_map,h1],?_,fun x hx=>?_⟩
   ·rw [List.pairwise_cons]
    refine ⟨fun x hx=>?_,?_⟩
    ·obtain ⟨y,_,rfl⟩:=List.mem_map.1 hx;omega
    ·rw [List.pairwise_map];exact h2.imp fun h=>by omega
   ·rcases List.mem_cons.1 hx with rfl|hx
    ·exact hf
    ·obtain ⟨y,hy,rfl⟩:=List.mem_map.1 hx
     have:=h3 y hy;omega
  ·rintro ⟨h1,h2,h3⟩
   cases l with
   | nil=>cases h1
   | cons f r =>
    obtain ⟨h4,h5⟩:=List.pairwise_cons.1 h2
    have hf:=h3 f (List.mem_cons_self ..)
    refine ⟨f,List.mem_range.2 hf,List.mem_map.2 ⟨r.map (· - (f+1)),zMC.2 ⟨?_,?_,fun x hx=>?_⟩,?_⟩⟩
    ·rw [List.length_map];simpa using h1
    ·rw [List.pairwise_map]
     refine h5.imp_of_mem fun {a b} ha hb h=>?_
     have:=h4 a ha;have:=h4 b hb;omega
    ·obtain ⟨y,hy,rfl⟩:=List.mem_map.1 hx
     have:=h4 y hy;have:=h3 y (List.mem_cons_of_mem _ hy);omega
    ·congr 1
     rw [List.map_map]
     have:∀ x ∈ r,((fun x=>f+1+x) ∘ fun x=>x - (f+1)) x=x:=fun x hx=>by have:=h4 x hx;simp only [Function.comp];omega
     rw [List.map_congr_left this,List.map_id'']
     exact fun _=>rfl
def lx:List Nat→List Nat→Bool
 | a :: l,b :: m=>if a=b then lx l m else decide (a < b)
 | _,_=>false
theorem zMD {k:Nat}:∀ {l m:List Nat},lx (l.map (k+·)) (m.map (k+·))=lx l m
 | [],_=>by simp [lx]
 | _ :: _,[]=>by simp [lx]
 | a :: l,b :: m=>by
  simp only [List.map_cons,lx,zMD]
  by_cases h:a=b
  ·rw [if_pos h,if_pos (by omega)]
  ·rw [if_neg h,if_neg (by omega),decide_eq_decide];omega
theorem zME:∀ {a b c:List Nat},lx a b=true→lx b c=true→lx a c=true
 | [],_,_,h,_=>by simp [lx] at h
 | _ :: _,[],_,h,_=>by simp [lx] at h
 | _ :: _,_ :: _,[],_,h=>by simp [lx] at h
 | a :: l,b :: m,c :: k,h1,h2=>by
  simp only [lx] at h1 h2 ⊢
  by_cases e1:a=b
  ·rw [if_pos e1] at h1
   by_cases e2:b=c
   ·rw [if_pos e2] at h2;rw [if_pos (e1.trans e2)];exact zME h1 h2
   ·rw [if_neg e2] at h2;rw [if_neg (by omega)];rw [e1];exact h2
  ·rw [if_neg e1] at h1
   have h1:=of_decide_eq_true h1
   by_cases e2:b=c
   ·rw [if_pos e2] at h2;rw [if_neg (by omega),decide_eq_true_eq];omega
   ·rw [if_neg e2] at h2
    have h2:=of_decide_eq_true h2
    rw [if_neg (by omega),decide_eq_true_eq];omega
theorem sels_lx:∀ {s n:Nat},(sels s n).Pairwise fun a b=>lx a b=true
 | 0,n=>by rw [sels];exact List.pairwise_singleton _ _
 | s+1,n=>by
  rw [sels,List.pairwise_flatMap]
  refine ⟨fun f _=>?_,?_⟩
  ·rw [List.pairwise_map]
   refine (sels_lx (s:=s) (n:=n - f - 1)).imp fun {a b} h=>?_
   simp only [lx,if_true,zMD];exact h
  ·refine range_lt.imp fun {f g} h x hx y hy=>?_
   obtain ⟨r,_,rfl⟩:=List.mem_map.1 hx
   obtain ⟨q,_,rfl⟩:=List.mem_map.1 hy
   simp only [lx]
   rw [if_neg (by omega),decide_eq_true_eq];exact h
def bet (long:Bool) (a b:List Nat):Bool:=(if long=true then decide (b.length < a.length) else decide (a.length < b.length)) || (decide (a.length=b.length) && lx a b)
theorem zMF {long:Bool} {a b c:List Nat} (h1:bet long a b=true) (h2:bet long b c=true):bet long a c=true:=by
 unfold bet at *
 cases long <;> simp only [if_true,Bool.false_eq_true,if_false,jQ,jJ,decide_eq_true_eq] at *
 all_goals
  rcases h1 with h1|⟨h1,h3⟩ <;> rcases h2 with h2|⟨h2,h4⟩
  ·left;omega
  ·left;omega
  ·left;omega
  ·right;exact ⟨by omega,zME h3 h4⟩
theorem zMG:∀ {a:List Nat},lx a a=false
 | []=>rfl
 | a :: l=>by simp only [lx,if_true];exact zMG
theorem zMH {long:Bool} {a:List Nat}:bet long a a=false:=by
 unfold bet;rw [zMG];cases long <;> simp
def zMI (long:Bool) (Q:List Nat→Bool) (acc:Option (List Nat)) (s:List Nat):Option (List Nat):=if Q s=true then (match acc with|none=>some s|some b=>if bet long s b=true then some s else some b) else acc
def zMJ (long:Bool) (Q:List Nat→Bool) (ls:List (List Nat)):Option (List Nat):=ls.foldl (zMI long Q) none
def zMK (long:Bool) (Q:List Nat→Bool) (ls:List (List Nat)) (r:Option (List Nat)):Prop:=match r with
 | none=>∀ s ∈ ls,Q s=false
 | some b=>b ∈ ls∧Q b=true∧∀ s ∈ ls,Q s=true→bet long s b=false
theorem zML {long:Bool} {Q:List Nat→Bool}:∀ {ls done:List (List Nat)} {r:Option (List Nat)},zMK long Q done r→zMK long Q (done ++ ls) (ls.foldl (zMI long Q) r)
 | [],done,r,h=>by rw [List.append_nil];exact h
 | s :: ls,done,r,h=>by
  rw [List.foldl_cons,show done ++ s :: ls=(done ++ [s]) ++ ls by simp]
  refine zML ?_
  unfold zMI
  by_cases hq:Q s=true
  ·rw [if_pos hq]
   cases r with
   | none =>
    refine ⟨List.mem_append_right _ (List.mem_singleton.2 rfl),hq,fun t ht htq=>?_⟩
    rcases List.mem_append.1 ht with ht|ht
    ·rw [h t ht] at htq;cases htq
    ·rw [List.mem_singleton.1 ht];exact zMH
   | some b =>
    obtain ⟨h1,h2,h3⟩:=h
    dsimp only
    by_cases hb:bet long s b=true
    ·rw [if_pos hb]
     refine ⟨List.mem_append_right _ (List.mem_singleton.2 rfl),hq,fun t ht htq=>?_⟩
     rcases List.mem_append.1 ht with ht|ht
     ·cases hh:bet long t s with
      | false=>rfl
      | true=>have:=h3 t ht htq;rw [zMF hh hb] at this;cases this
     ·rw [List.mem_singleton.1 ht];exact zMH
    ·rw [if_neg hb]
     refine ⟨List.mem_append_left _ h1,h2,fun t ht htq=>?_⟩
     rcases List.mem_append.1 ht with ht|ht
     ·exact h3 t ht htq
     ·rw [List.mem_singleton.1 ht];simpa using hb
  ·rw [if_neg hq]
   have hq:Q s=false:=by simpa using hq
   cases r with
   | none =>
    intro t ht
    rcases List.mem_append.1 ht with ht|ht
    ·exact h t ht
    ·rw [List.mem_singleton.1 ht];exact hq
   | some b =>
    obtain ⟨h1,h2,h3⟩:=h
    refine ⟨List.mem_append_left _ h1,h2,fun t ht htq=>?_⟩
    rcases List.mem_append.1 ht with ht|ht
    ·exact h3 t ht htq
    ·rw [List.mem_singleton.1 ht,hq] at htq;cases htq
theorem zMM {long:Bool} {Q:List Nat→Bool} {ls:List (List Nat)}:zMK long Q ls (zMJ long Q ls):=by
 have:=zML (long:=long) (Q:=Q) (ls:=ls) (done:=[]) (r:=none) (fun s hs=>by cases hs)
 rwa [List.nil_append] at this
theorem zMN {long:Bool} {Q:List Nat→Bool} {ls os:List (List Nat)} (hs:os.Pairwise fun a b=>bet long a b=true) (he:∀ l,l ∈ os ↔ l ∈ ls):os.find? Q=zMJ long Q ls:=by
 have hp:=zMM (long:=long) (Q:=Q) (ls:=ls)
 cases hr:zMJ long Q ls with
 | none =>
  rw [hr] at hp
  rw [List.find?_eq_none]
  intro x hx hq
  rw [hp x ((he x).1 hx)] at hq;cases hq
 | some b =>
  rw [hr] at hp
  obtain ⟨h1,h2,h3⟩:=hp
  have hb:=(he b).2 h1
  clear hr h1
  have key:∀ os:List (List Nat),os.Pairwise (fun a b=>bet long a b=true)→(∀ l ∈ os,Q l=true→bet long l b=false)→b ∈ os→os.find? Q=some b:=by
   intro os
   induction os with
   | nil=>intro _ _ h;cases h
   | cons o os ih =>
    intro hs hn hb
    obtain ⟨s1,s2⟩:=List.pairwise_cons.1 hs
    rw [List.find?_cons]
    cases hq:Q o with
    | true =>
     simp only
     rcases List.mem_cons.1 hb with e|e
     ·rw [e]
     ·have:=hn o (List.mem_cons_self ..) hq
      rw [s1 b e] at this;cases this
    | false =>
     simp only
     rcases List.mem_cons.1 hb with e|e
     ·rw [e,hq] at h2;cases h2
     ·exact ih s2 (fun l hl=>hn l (List.mem_cons_of_mem _ hl)) e
  exact key os hs (fun l hl hq=>h3 l ((he l).1 hl) hq) hb
def upL (n:Nat):List (List Nat):=(List.range (n+1)).flatMap fun s=>sels s n
def zMO (n:Nat):List (List Nat):=(List.range (2 ^ n)).map (zMz n)
theorem zMP:∀ {n:Nat} {l:List Nat},Asc n l→l.length≤n:=fun {n l} h=>by
 have:=zMC (s:=l.length) (n:=n) (l:=l)
 have hn:l.Nodup:=h.1.imp fun h e=>by omega
 exact znV hn h.2
theorem zMQ {n:Nat} {l:List Nat}:l ∈ zMO n ↔ Asc n l:=by
 rw [zMO,List.mem_map]
 constructor
 ·rintro ⟨b,_,rfl⟩;exact zMA
 ·intro h
  obtain ⟨b,h1,h2⟩:=zMB h
  exact ⟨b,List.mem_range.2 h1,h2⟩
theorem zMR {n:Nat} {l:List Nat}:l ∈ upL n ↔ Asc n l:=by
 rw [upL,List.mem_flatMap]
 constructor
 ·rintro ⟨s,_,h⟩;exact (zMC.1 h).2
 ·intro h;exact ⟨l.length,List.mem_range.2 (by have:=zMP h;omega),zMC.2 ⟨rfl,h⟩⟩
theorem zMS {n:Nat} {Q:List Nat→Bool}:(upL n).find? Q=zMJ false Q (zMO n):=by
 refine zMN ?_ fun l=>by rw [zMR,zMQ]
 rw [upL,List.pairwise_flatMap]
 refine ⟨fun s _=>?_,?_⟩
 ·refine sels_lx.imp_of_mem fun {a b} ha hb h=>?_
  rw [bet,(zMC.1 ha).1,(zMC.1 hb).1,h];simp
 ·refine range_lt.imp fun {s t} h x hx y hy=>?_
  rw [bet,(zMC.1 hx).1,(zMC.1 hy).1];simp [h]
theorem zMT {n:Nat} (hn:n≤6):∀ {s:Nat},(sels s n).length≤64:=fun {s}=>by
 have key:((sels s n).map fun l=>zzY (fun i=>decide (i ∈ l)) n).Nodup:=by
  rw [List.Nodup,List.pairwise_map]
  refine (sels_lx (s:=s) (n:=n)).imp_of_mem fun {a b} ha hb h e=>?_
  have h1:=(zMC.1 ha).2
  have h2:=(zMC.1 hb).2
  have:a=b:=zMy h1.1 h2.1 fun x=>by
   have hx:(zzY (fun i=>decide (i ∈ a)) n).testBit x=(zzY (fun i=>decide (i ∈ b)) n).testBit x:=by rw [e]
   rw [zzZ,zzZ,Bool.eq_iff_iff,jJ,jJ,decide_eq_true_eq,decide_eq_true_eq,decide_eq_true_eq] at hx
   exact ⟨fun hm=>(hx.1 ⟨h1.2 x hm,hm⟩).2,fun hm=>(hx.2 ⟨h2.2 x hm,hm⟩).2⟩
  rw [this,zMG] at h
  cases h
 have:=znV (m:=2 ^ n) key fun x hx=>by
  obtain ⟨l,_,rfl⟩:=List.mem_map.1 hx
  exact zz0
 rw [List.length_map] at this
 exact Nat.le_trans this (Nat.pow_le_pow_right (n:=2) (by decide) hn)
end Go.SL
