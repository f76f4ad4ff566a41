/- Plain theorems about the model. -/
import Derived.Test.YtdejfjdbcggilaaGreatSGFnRefusalsx11
import Derived.Test.YtdejfjdbcggilaaGreatSGFnRefusalsx5
set_option linter.unusedVariables false
set_option linter.unusedSimpArgs false
set_option maxRecDepth 4000
open Nat renaming reduceAdd → jq, reduceMul → jj, reduceBEq → jy, reduceLeDiff → jv, reduceLT → jk, reduceEqDiff → jx
open Bool renaming or_eq_false_iff → jp, or_eq_true → jQ, and_eq_true → jJ
open Int renaming toNat_natCast → jW, natCast_nonneg → jY
namespace Go.SL
open Go Go.RowKit
def Asc (n:Nat) (l:List Nat):Prop:=l.Pairwise (· < ·)∧∀ x ∈ l,x < n
theorem zLi:∀ {l m:List Nat},l.Pairwise (· < ·)→m.Pairwise (· < ·)→(∀ x,x ∈ l ↔ x ∈ m)→l=m
 | [],[],_,_,_=>rfl
 | [],b :: m,_,_,h=>absurd ((h b).2 (List.mem_cons_self ..)) (by simp)
 | a :: l,[],_,_,h=>absurd ((h a).1 (List.mem_cons_self ..)) (by simp)
 | a :: l,b :: m,hl,hm,h=>by
  obtain ⟨h1,h2⟩:=List.pairwise_cons.1 hl
  obtain ⟨h3,h4⟩:=List.pairwise_cons.1 hm
  have e:a=b:=by
   rcases List.mem_cons.1 ((h a).1 (List.mem_cons_self ..)) with e|e
   ·exact e
   ·rcases List.mem_cons.1 ((h b).2 (List.mem_cons_self ..)) with e2|e2
    ·exact e2.symm
    ·have:=h3 a e;have:=h1 b e2;omega
  subst e
  congr 1
  refine zLi h2 h4 fun x=>⟨fun hx=>?_,fun hx=>?_⟩
  ·rcases List.mem_cons.1 ((h x).1 (List.mem_cons_of_mem _ hx)) with e|e
   ·have:=h1 x hx;omega
   ·exact e
  ·rcases List.mem_cons.1 ((h x).2 (List.mem_cons_of_mem _ hx)) with e|e
   ·have:=h3 x hx;omega
   ·exact e
def zLj (n bits:Nat):List Nat:=(List.range n).filter bits.testBit
theorem range_lt {n:Nat}:(List.range n).Pairwise (· < ·):=List.pairwise_lt_range
theorem zLk {n bits:Nat}:Asc n (zLj n bits):=⟨range_lt.filter _,fun x hx=>List.mem_range.1 (List.mem_filter.1 hx).1⟩
theorem zLl {n:Nat} {l:List Nat} (h:Asc n l):∃ bits,bits < 2 ^ n∧zLj n bits=l:=by
 refine ⟨zG7 (fun i=>decide (i ∈ l)) n,zG9,zLi zLk.1 h.1 fun x=>?_⟩
 rw [zLj,List.mem_filter,List.mem_range,zG8,jJ,decide_eq_true_eq,decide_eq_true_eq]
 exact ⟨fun hx=>hx.2.2,fun hx=>⟨h.2 x hx,h.2 x hx,hx⟩⟩
def sels:Nat→Nat→List (List Nat)
 | 0,_=>[[]]
 | s+1,n=>(List.range n).flatMap fun f=>(sels s (n - f - 1)).map fun r=>f :: r.map (f+1+·)
theorem zLm:∀ {s n:Nat} {l:List Nat},l ∈ sels s n ↔ l.length=s∧Asc n l
 | 0,n,l=>by
  rw [sels,List.mem_singleton]
  constructor
  ·rintro rfl;exact ⟨rfl,List.Pairwise.nil,fun x hx=>by cases hx⟩
  ·rintro ⟨h,_⟩;exact List.eq_nil_of_length_eq_zero h
 | s+1,n,l=>by
  rw [sels,List.mem_flatMap]
  constructor
  ·rintro ⟨f,hf,hl⟩
   have hf:=List.mem_range.1 hf
   obtain ⟨r,hr,rfl⟩:=List.mem_map.1 hl
   obtain ⟨h1,h2,h3⟩:=zLm.1 hr
   refine ⟨by rw [List.length_cons,List.length_map,h1],?_,fun x hx=>?_⟩
   ·rw [List.pairwise_cons]
    refine ⟨fun x hx=>?_,?_⟩
    ·obtain ⟨y,_,rfl⟩:=List.mem_map.1 hx;omega
    ·rw [List.pairwise_map];exact h2.imp fun h=>by omega
   ·rcases List.mem_cons.1 hx with rfl|hx
    ·exact hf
    ·obtain ⟨y,hy,rfl⟩:=List.mem_map.1 hx
     have:=h3 y hy;omega
  ·rintro ⟨h1,h2,h3⟩
   cases l with
   | nil=>cases h1
   | cons f r =>
    obtain ⟨h4,h5⟩:=List.pairwise_cons.1 h2
    have hf:=h3 f (List.mem_cons_self ..)
    refine ⟨f,List.mem_range.2 hf,List.mem_map.2 ⟨r.map (· - (f+1)),zLm.2 ⟨?_,?_,fun x hx=>?_⟩,?_⟩⟩
    ·rw [List.length_map];simpa using h1
    ·rw [List.pairwise_map]
     refine h5.imp_of_mem fun {a b} ha hb h=>?_
     have:=h4 a ha;have:=h4 b hb;omega
    ·obtain ⟨y,hy,rfl⟩:=List.mem_map.1 hx
     have:=h4 y hy;have:=h3 y (List.mem_cons_of_mem _ hy);omega
    ·congr 1
     rw [List.map_map]
     have:∀ x ∈ r,((fun x=>f+1+x) ∘ fun x=>x - (f+1)) x=x:=fun x hx=>by have:=h4 x hx;simp only [Function.comp];omega
     rw [List.map_congr_left this,List.map_id'']
     exact fun _=>rfl
def lx:List Nat→List Nat→Bool
 | a :: l,b :: m=>if a=b then lx l m else decide (a < b)
 | _,_=>false
theorem zLn {k:Nat}:∀ {l m:List Nat},lx (l.map (k+·)) (m.map (k+·))=lx l m
 | [],_=>by simp [lx]
 | _ :: _,[]=>by simp [lx]
 | a :: l,b :: m=>by
  simp only [List.map_cons,lx,zLn]
  by_cases h:a=b
  ·rw [if_pos h,if_pos (by omega)]
  ·rw [if_neg h,if_neg (by omega),decide_eq_decide];omega
theorem zLo:∀ {a b c:List Nat},lx a b=true→lx b c=true→lx a c=true
 | [],_,_,h,_=>by simp [lx] at h
 | _ :: _,[],_,h,_=>by simp [lx] at h
 | _ :: _,_ :: _,[],_,h=>by simp [lx] at h
 | a :: l,b :: m,c :: k,h1,h2=>by
  simp only [lx] at h1 h2 ⊢
  by_cases e1:a=b
  ·rw [if_pos e1] at h1
   by_cases e2:b=c
   ·rw [if_pos e2] at h2;rw [if_pos (e1.trans e2)];exact zLo h1 h2
   ·rw [if_neg e2] at h2;rw [if_neg (by omega)];rw [e1];exact h2
  ·rw [if_neg e1] at h1
   have h1:=of_decide_eq_true h1
   by_cases e2:b=c
   ·rw [if_pos e2] at h2;rw [if_neg (by omega),decide_eq_true_eq];omega
   ·rw [if_neg e2] at h2
    have h2:=of_decide_eq_true h2
    rw [if_neg (by omega),decide_eq_true_eq];omega
theorem sels_lx:∀ {s n:Nat},(sels s n).Pairwise fun a b=>lx a b=true
 | 0,n=>by rw [sels];exact List.pairwise_singleton _ _
 | s+1,n=>by
  rw [sels,List.pairwise_flatMap]
  refine ⟨fun f _=>?_,?_⟩
  ·rw [List.pairwise_map]
   refine (sels_lx (s:=s) (n:=n - f - 1)).imp fun {a b} h=>?_
   simp only [lx,if_true,zLn];exact h
  ·refine range_lt.imp fun {f g} h x hx y hy=>?_
   obtain ⟨r,_,rfl⟩:=List.mem_map.1 hx
   obtain ⟨q,_,rfl⟩:=List.mem_map.1 hy
   simp only [lx]
   rw [if_neg (by omega),decide_eq_true_eq];exact h
def bet (long:Bool) (a b:List Nat):Bool:=(if long=true then decide (b.length < a.length) else decide (a.length < b.length)) || (decide (a.length=b.length) && lx a b)
theorem zLp {long:Bool} {a b c:List Nat} (h1:bet long a b=true) (h2:bet long b c=true):bet long a c=true:=by
 unfold bet at *
 cases long <;> simp only [if_true,Bool.false_eq_true,if_false,jQ,jJ,decide_eq_true_eq] at *
 all_goals
  rcases h1 with h1|⟨h1,h3⟩ <;> rcases h2 with h2|⟨h2,h4⟩
  ·left;omega
  ·left;omega
  ·left;omega
  ·right;exact ⟨by omega,zLo h3 h4⟩
theorem zLq:∀ {a:List Nat},lx a a=false
 | []=>rfl
 | a :: l=>by simp only [lx,if_true];exact zLq
theorem zLr {long:Bool} {a:List Nat}:bet long a a=false:=by
 unfold bet;rw [zLq];cases long <;> simp
def zLs (long:Bool) (Q:List Nat→Bool) (acc:Option (List Nat)) (s:List Nat):Option (List Nat):=if Q s=true then (match acc with|none=>some s|some b=>if bet long s b=true then some s else some b) else acc
def zLt (long:Bool) (Q:List Nat→Bool) (ls:List (List Nat)):Option (List Nat):=ls.foldl (zLs long Q) none
def zLu (long:Bool) (Q:List Nat→Bool) (ls:List (List Nat)) (r:Option (List Nat)):Prop:=match r with
 | none=>∀ s ∈ ls,Q s=false
 | some b=>b ∈ ls∧Q b=true∧∀ s ∈ ls,Q s=true→bet long s b=false
theorem zLv {long:Bool} {Q:List Nat→Bool}:∀ {ls done:List (List Nat)} {r:Option (List Nat)},zLu long Q done r→zLu long Q (done ++ ls) (ls.foldl (zLs long Q) r)
 | [],done,r,h=>by rw [List.append_nil];exact h
 | s :: ls,done,r,h=>by
  rw [List.foldl_cons,show done ++ s :: ls=(done ++ [s]) ++ ls by simp]
  refine zLv ?_
  unfold zLs
  by_cases hq:Q s=true
  ·rw [if_pos hq]
   cases r with
   | none =>
    refine ⟨List.mem_append_right _ (List.mem_singleton.2 rfl),hq,fun t ht htq=>?_⟩
    rcases List.mem_append.1 ht with ht|ht
    ·rw [h t ht] at htq;cases htq
    ·rw [List.mem_singleton.1 ht];exact zLr
   | some b =>
    obtain ⟨h1,h2,h3⟩:=h
    dsimp only
    by_cases hb:bet long s b=true
    ·rw [if_pos hb]
     refine ⟨List.mem_append_right _ (List.mem_singleton.2 rfl),hq,fun t ht htq=>?_⟩
     rcases List.mem_append.1 ht with ht|ht
     ·cases hh:bet long t s with
      | false=>rfl
      | true=>have:=h3 t ht htq;rw [zLp hh hb] at this;cases this
     ·rw [List.mem_singleton.1 ht];exact zLr
    ·rw [if_neg hb]
     refine ⟨List.mem_append_left _ h1,h2,fun t ht htq=>?_⟩
     rcases List.mem_append.1 ht with ht|ht
     ·exact h3 t ht htq
     ·rw [List.mem_singleton.1 ht];simpa using hb
  ·rw [if_neg hq]
   have hq:Q s=false:=by simpa using hq
   cases r with
   | none =>
    intro t ht
    rcases List.mem_append.1 ht with ht|ht
    ·exact h t ht
    ·rw [List.mem_singleton.1 ht];exact hq
   | some b =>
    obtain ⟨h1,h2,h3⟩:=h
    refine ⟨List.mem_append_left _ h1,h2,fun t ht htq=>?_⟩
    rcases List.mem_append.1 ht with ht|ht
    ·exact h3 t ht htq
    ·rw [List.mem_singleton.1 ht,hq] at htq;cases htq
theorem zLw {long:Bool} {Q:List Nat→Bool} {ls:List (List Nat)}:zLu long Q ls (zLt long Q ls):=by
 have:=zLv (long:=long) (Q:=Q) (ls:=ls) (done:=[]) (r:=none) (fun s hs=>by cases hs)
 rwa [List.nil_append] at this
theorem zLx {long:Bool} {Q:List Nat→Bool} {ls os:List (List Nat)} (hs:os.Pairwise fun a b=>bet long a b=true) (he:∀ l,l ∈ os ↔ l ∈ ls):os.find? Q=zLt long Q ls:=by
 have hp:=zLw (long:=long) (Q:=Q) (ls:=ls)
 cases hr:zLt long Q ls with
 | none =>
  rw [hr] at hp
  rw [List.find?_eq_none]
  intro x hx hq
  rw [hp x ((he x).1 hx)] at hq;cases hq
 | some b =>
  rw [hr] at hp
  obtain ⟨h1,h2,h3⟩:=hp
  have hb:=(he b).2 h1
  clear hr h1
  have key:∀ os:List (List Nat),os.Pairwise (fun a b=>bet long a b=true)→(∀ l ∈ os,Q l=true→bet long l b=false)→b ∈ os→os.find? Q=some b:=by
   intro os
   induction os with
   | nil=>intro _ _ h;cases h
   | cons o os ih =>
    intro hs hn hb
    obtain ⟨s1,s2⟩:=List.pairwise_cons.1 hs
    rw [List.find?_cons]
    cases hq:Q o with
    | true =>
     simp only
     rcases List.mem_cons.1 hb with e|e
     ·rw [e]
     ·have:=hn o (List.mem_cons_self ..) hq
      rw [s1 b e] at this;cases this
    | false =>
     simp only
     rcases List.mem_cons.1 hb with e|e
     ·rw [e,hq] at h2;cases h2
     ·exact ih s2 (fun l hl=>hn l (List.mem_cons_of_mem _ hl)) e
  exact key os hs (fun l hl hq=>h3 l ((he l).1 hl) hq) hb
def upL (n:Nat):List (List Nat):=(List.range (n+1)).flatMap fun s=>sels s n
def zLy (n:Nat):List (List Nat):=(List.range (n+1)).flatMap fun s=>sels (n - s) n
def zLz (n:Nat):List (List Nat):=(List.range (2 ^ n)).map (zLj n)
theorem zLA:∀ {n:Nat} {l:List Nat},Asc n l→l.length≤n:=fun {n l} h=>by
 have:=zLm (s:=l.length) (n:=n) (l:=l)
 have hn:l.Nodup:=h.1.imp fun h e=>by omega
 exact zDh hn h.2
theorem zLB {n:Nat} {l:List Nat}:l ∈ zLz n ↔ Asc n l:=by
 rw [zLz,List.mem_map]
 constructor
 ·rintro ⟨b,_,rfl⟩;exact zLk
 ·intro h
  obtain ⟨b,h1,h2⟩:=zLl h
  exact ⟨b,List.mem_range.2 h1,h2⟩
theorem zLC {n:Nat} {l:List Nat}:l ∈ upL n ↔ Asc n l:=by
 rw [upL,List.mem_flatMap]
 constructor
 ·rintro ⟨s,_,h⟩;exact (zLm.1 h).2
 ·intro h;exact ⟨l.length,List.mem_range.2 (by have:=zLA h;omega),zLm.2 ⟨rfl,h⟩⟩
theorem zLD {n:Nat} {l:List Nat}:l ∈ zLy n ↔ Asc n l:=by
 rw [zLy,List.mem_flatMap]
 constructor
 ·rintro ⟨s,_,h⟩;exact (zLm.1 h).2
 ·intro h
  have:=zLA h
  exact ⟨n - l.length,List.mem_range.2 (by omega),zLm.2 ⟨by omega,h⟩⟩
theorem zLE {n:Nat} {Q:List Nat→Bool}:(upL n).find? Q=zLt false Q (zLz n):=by
 refine zLx ?_ fun l=>by rw [zLC,zLB]
 rw [upL,List.pairwise_flatMap]
 refine ⟨fun s _=>?_,?_⟩
 ·refine sels_lx.imp_of_mem fun {a b} ha hb h=>?_
  rw [bet,(zLm.1 ha).1,(zLm.1 hb).1,h];simp
 ·refine range_lt.imp fun {s t} h x hx y hy=>?_
  rw [bet,(zLm.1 hx).1,(zLm.1 hy).1];simp [h]
theorem zLF {n:Nat} {Q:List Nat→Bool}:(zLy n).find? Q=zLt true Q (zLz n):=by
 refine zLx ?_ fun l=>by rw [zLD,zLB]
 rw [zLy,List.pairwise_flatMap]
 refine ⟨fun s _=>?_,?_⟩
 ·refine sels_lx.imp_of_mem fun {a b} ha hb h=>?_
  rw [bet,(zLm.1 ha).1,(zLm.1 hb).1,h];simp
 ·refine range_lt.imp_of_mem fun {s t} hs ht h x hx y hy=>?_
  have:=List.mem_range.1 ht
  rw [bet,(zLm.1 hx).1,(zLm.1 hy).1,if_pos rfl,decide_eq_true (show n - t < n - s by omega),Bool.true_or]
theorem zLI {n:Nat} (hn:n≤6):∀ {s:Nat},(sels s n).length≤64:=fun {s}=>by
 have key:((sels s n).map fun l=>zG7 (fun i=>decide (i ∈ l)) n).Nodup:=by
  rw [List.Nodup,List.pairwise_map]
  refine (sels_lx (s:=s) (n:=n)).imp_of_mem fun {a b} ha hb h e=>?_
  have h1:=(zLm.1 ha).2
  have h2:=(zLm.1 hb).2
  have:a=b:=zLi h1.1 h2.1 fun x=>by
   have hx:(zG7 (fun i=>decide (i ∈ a)) n).testBit x=(zG7 (fun i=>decide (i ∈ b)) n).testBit x:=by rw [e]
   rw [zG8,zG8,Bool.eq_iff_iff,jJ,jJ,decide_eq_true_eq,decide_eq_true_eq,decide_eq_true_eq] at hx
   exact ⟨fun hm=>(hx.1 ⟨h1.2 x hm,hm⟩).2,fun hm=>(hx.2 ⟨h2.2 x hm,hm⟩).2⟩
  rw [this,zLq] at h
  cases h
 have:=zDh (m:=2 ^ n) key fun x hx=>by
  obtain ⟨l,_,rfl⟩:=List.mem_map.1 hx
  exact zG9
 rw [List.length_map] at this
 exact Nat.le_trans this (Nat.pow_le_pow_right (n:=2) (by decide) hn)
end Go.SL
