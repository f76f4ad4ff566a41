/- What functions of the given program compute, as contracts. -/
import Derived.Test.YtdeflkhkfmjckaaSGFnInOrderx5
import Derived.Test.YtdeflkhkfmjckaaXGFnInOrder12
import Derived.Test.YtdeflkhkfmjckaaXGFnInOrder13
import Derived.Test.YtdeflkhkfmjckaaXGFnInOrder7
set_option linter.unusedVariables false
set_option linter.unusedSimpArgs false
set_option maxRecDepth 4000
open Nat renaming reduceAdd → jq, reduceMul → jj, reduceBEq → jy, reduceLeDiff → jv, reduceLT → jk, reduceEqDiff → jx
open Bool renaming or_eq_false_iff → jp, or_eq_true → jQ, and_eq_true → jJ
open Int renaming toNat_natCast → jW, natCast_nonneg → jY
open Go.Proofs.Try renaming prog → jV
namespace Go.Proofs.Ytdeflkhkfmjckaa
open Go Go.SL
set_option maxHeartbeats 1000000
theorem zDO {l:List DWindow} {m:Int}:zwb l m=true ↔ ∃ w ∈ l,w.src≤m∧m≤w.dst:=by
 rw [zwb,List.any_eq_true]
 simp only [In,jJ,decide_eq_true_eq]
def Runs (p:Nat→Bool) (k:Nat) (l:List DWindow):Prop :=
 (∀ w ∈ l,0≤w.src∧w.src≤w.dst∧w.dst < k∧∀ j:Nat,w.src≤j→(j:Int)≤w.dst→p j=true)∧(∀ j:Nat,j < k→p j=true→∃ w ∈ l,w.src≤j∧(j:Int)≤w.dst)∧l.Pairwise fun a b=>a.dst+1 < b.src
theorem zDP {p:Nat→Bool}:∀ {k:Nat},Runs p k (zwp p k)
 | 0=>⟨fun w hw=>(by cases hw),fun j hj=>absurd hj (Nat.not_lt_zero j),List.Pairwise.nil⟩
 | k+1=>by
  obtain ⟨h1,h2,h3⟩:=zDP (p:=p) (k:=k)
  cases hp:p k with
  | false =>
   rw [zww hp]
   refine ⟨fun w hw=>?_,fun j hj hpj=>?_,h3⟩
   ·obtain ⟨a1,a2,a3,a4⟩:=h1 w hw
    exact ⟨a1,a2,by omega,a4⟩
   ·rcases Nat.lt_or_ge j k with h|h
    ·exact h2 j h hpj
    ·obtain rfl:j=k:=by omega
     rw [hp] at hpj;cases hpj
  | true =>
   rw [zwv hp]
   cases hl:zwn (zwp p k) k with
   | false =>
    rw [zwr hl]
    refine ⟨fun w hw=>?_,fun j hj hpj=>?_,?_⟩
    ·rcases List.mem_append.1 hw with hw|hw
     ·obtain ⟨a1,a2,a3,a4⟩:=h1 w hw
      exact ⟨a1,a2,by omega,a4⟩
     ·rw [List.mem_singleton.1 hw]
      refine ⟨jY _,Int.le_refl _,by show (k:Int) < _;omega,fun j h4 h5=>?_⟩
      have h4:(k:Int)≤j:=h4
      have h5:(j:Int)≤k:=h5
      obtain rfl:j=k:=by omega
      exact hp
    ·rcases Nat.lt_or_ge j k with h|h
     ·obtain ⟨w,hw,a⟩:=h2 j h hpj
      exact ⟨w,List.mem_append_left _ hw,a⟩
     ·obtain rfl:j=k:=by omega
      exact ⟨_,List.mem_append_right _ (List.mem_singleton.2 rfl),Int.le_refl _,Int.le_refl _⟩
    ·rw [List.pairwise_append]
     refine ⟨h3,List.pairwise_singleton ..,fun w hw z hz=>?_⟩
     rw [List.mem_singleton.1 hz]
     show w.dst+1 < (k:Int)
     obtain ⟨a1,a2,a3,a4⟩:=h1 w hw
     rcases Int.lt_or_le (w.dst+1) k with h9|h9
     ·exact h9
     ·exfalso
      have hne:zwp p k ≠ []:=fun e=>by rw [e] at hw;cases hw
      have hsp:=(List.dropLast_concat_getLast hne).symm
      have hlast:((zwp p k).getLast hne).dst=(k:Int) - 1:=by
       obtain ⟨b1,b2,b3,b4⟩:=h1 _ (List.getLast_mem hne)
       rw [hsp,List.pairwise_append] at h3
       rw [hsp] at hw
       rcases List.mem_append.1 hw with hw|hw
       ·have:=h3.2.2 w hw _ (List.mem_singleton.2 rfl);omega
       ·rw [List.mem_singleton.1 hw] at h9 a3;omega
      have:zwn (zwp p k) k=true:=by
       rw [hsp]
       unfold zwn
       simp [hlast]
      rw [this] at hl;cases hl
   | true =>
    obtain ⟨l0,w,e,hd,he⟩:=zwq hl
    rw [he]
    rw [e] at h1 h2 h3
    rw [List.pairwise_append] at h3
    refine ⟨fun z hz=>?_,fun j hj hpj=>?_,?_⟩
    ·rcases List.mem_append.1 hz with hz|hz
     ·obtain ⟨a1,a2,a3,a4⟩:=h1 z (List.mem_append_left _ hz)
      exact ⟨a1,a2,by omega,a4⟩
     ·obtain ⟨a1,a2,a3,a4⟩:=h1 w (List.mem_append_right _ (List.mem_singleton.2 rfl))
      rw [List.mem_singleton.1 hz]
      refine ⟨a1,by show w.src≤(k:Int);omega,by show (k:Int) < _;omega,fun j h4 h5=>?_⟩
      have h4:w.src≤j:=h4
      have h5:(j:Int)≤k:=h5
      rcases Nat.lt_or_ge j k with h|h
      ·exact a4 j h4 (by omega)
      ·obtain rfl:j=k:=by omega
       exact hp
    ·rcases Nat.lt_or_ge j k with h|h
     ·obtain ⟨z,hz,a1,a2⟩:=h2 j h hpj
      rcases List.mem_append.1 hz with hz|hz
      ·exact ⟨z,List.mem_append_left _ hz,a1,a2⟩
      ·rw [List.mem_singleton.1 hz] at a1 a2
       exact ⟨_,List.mem_append_right _ (List.mem_singleton.2 rfl),a1,by show (j:Int)≤k;omega⟩
     ·obtain rfl:j=k:=by omega
      obtain ⟨a1,a2,a3,a4⟩:=h1 w (List.mem_append_right _ (List.mem_singleton.2 rfl))
      exact ⟨_,List.mem_append_right _ (List.mem_singleton.2 rfl),by show w.src≤(j:Int);omega,Int.le_refl _⟩
    ·rw [List.pairwise_append]
     refine ⟨h3.1,List.pairwise_singleton ..,fun y hy z hz=>?_⟩
     rw [List.mem_singleton.1 hz]
     exact h3.2.2 y hy w (List.mem_singleton.2 rfl)
theorem zDQ {p:Nat→Bool} {k:Nat} {l:List DWindow} (h:Runs p k l) (hk:k≤2881):zwa l=true:=by
 obtain ⟨h1,h2,h3⟩:=h
 refine decide_eq_true fun i hi=>?_
 rw [zv9,wget hi,decide_eq_true_eq]
 obtain ⟨a1,a2,a3,_⟩:=h1 _ (List.getElem_mem hi)
 refine ⟨⟨a1,a2,by omega⟩,fun h0=>?_⟩
 rw [wget (show i - 1 < l.length by omega)]
 have:=List.pairwise_iff_getElem.1 h3 (i - 1) i (by omega) hi (by omega)
 obtain ⟨b1,b2,b3,_⟩:=h1 _ (List.getElem_mem (show i - 1 < l.length by omega))
 rw [zjz (by omega)]
 exact this
theorem zDR {p:Nat→Bool} {n:Int} (hn:0≤n∧n≤2880) {m:Int}:zwb (zwd (zwp p 2881) n) m=true ↔ 0≤m∧m+n≤2880∧∀ j:Nat,m≤j→(j:Int)≤m+n→p j=true:=by
 have hr:=zDP (p:=p) (k:=2881)
 have hok:=zDQ hr (Nat.le_refl _)
 obtain ⟨h1,h2,h3⟩:=hr
 rw [zDO,zwd,if_pos ⟨hok,hn.1,hn.2⟩]
 constructor
 ·rintro ⟨w,hw,h4,h5⟩
  obtain ⟨z,hz,rfl⟩:=List.mem_map.1 hw
  obtain ⟨hz,hs⟩:=List.mem_filter.1 hz
  obtain ⟨a1,a2,a3,a4⟩:=h1 z hz
  rw [shr,decide_eq_true_eq,zjz (by omega)] at hs
  have h4:z.src≤m:=h4
  have h5:m≤IntKind.i64.wrap (z.dst - n):=h5
  rw [zjz (by omega)] at h5
  exact ⟨by omega,by omega,fun j h6 h7=>a4 j (by omega) (by omega)⟩
 ·rintro ⟨h4,h5,h6⟩
  obtain ⟨m',rfl⟩:∃ m':Nat,m=m':=⟨m.toNat,by omega⟩
  obtain ⟨w,hw,h7,h8⟩:=h2 m' (by omega) (h6 m' (Int.le_refl _) (by omega))
  obtain ⟨a1,a2,a3,a4⟩:=h1 w hw
  have hd:(m':Int)+n≤w.dst:=by
   rcases Int.lt_or_le w.dst ((m':Int)+n) with h9|h9
   ·exfalso
    have hp:=h6 (w.dst.toNat+1) (by omega) (by omega)
    obtain ⟨z,hz,b1,b2⟩:=h2 (w.dst.toNat+1) (by omega) hp
    obtain ⟨i,hi,rfl⟩:=List.getElem_of_mem hw
    obtain ⟨j,hj,rfl⟩:=List.getElem_of_mem hz
    obtain ⟨c1,c2,c3,c4⟩:=h1 _ (List.getElem_mem hj)
    rcases Nat.lt_trichotomy i j with h10|h10|h10
    ·have:=List.pairwise_iff_getElem.1 h3 i j hi hj h10;omega
    ·subst h10;omega
    ·have:=List.pairwise_iff_getElem.1 h3 j i hj hi h10;omega
   ·exact h9
  refine ⟨shw n w,List.mem_map.2 ⟨w,List.mem_filter.2 ⟨hw,?_⟩,rfl⟩,h7,?_⟩
  ·rw [shr,decide_eq_true_eq,zjz (by omega)];omega
  ·show (m':Int)≤IntKind.i64.wrap (w.dst - n)
   rw [zjz (by omega)];omega
def revA (l:List DSurge) (m lo hi:Int):List DSurge:=(if (l.getD (zvR l m) dS).src=m then l.take (zvR l m) else l.take (zvR l m+1)) ++ [⟨m,max (l.getD (zvR l m) dS).low lo,min (l.getD (zvR l m) dS).high hi⟩] ++ l.drop (zvR l m+1)
theorem zDS {l:List DSurge} {m:Int}:∀ {k:Nat},k≤l.length→∀ j (hj:j < l.length),zvQ l m k < j→j < k→m < l[j].src
 | 0,_,j,hj,_,h2=>by omega
 | k+1,hk,j,hj,h1,h2=>by
  have hkl:k < l.length:=by omega
  by_cases h:l[k].src≤m
  ·rw [zvU hkl h] at h1;omega
  ·rw [zvV hkl h] at h1
   rcases Nat.lt_or_ge j k with h3|h3
   ·exact zDS (by omega) j hj h1 h3
   ·obtain rfl:j=k:=by omega
    omega
theorem zDT {l:List DSurge} {m:Int}:∀ {k:Nat},k≤l.length→(∀ (h:0 < l.length),l[0].src≤m)→∀ (hs:zvQ l m k < l.length),0 < k→l[zvQ l m k].src≤m
 | 0,_,_,_,h=>by omega
 | k+1,hk,h0,hs,_=>by
  have hkl:k < l.length:=by omega
  by_cases h:l[k].src≤m
  ·simp only [zvU hkl h];exact h
  ·simp only [zvV hkl h] at hs ⊢
   rcases Nat.eq_zero_or_pos k with rfl|hp
   ·exact absurd (h0 hkl) h
   ·exact zDT (by omega) h0 hs hp
def zDU (f:PForecast) (m lo hi:Int):Option PForecast:=if zuY f=true∧0≤m∧m≤2880 then (if zuY { f with surges:=revA f.surges m lo hi }=true then some { f with surges:=revA f.surges m lo hi } else none) else none
theorem zDV {l:List DSurge} {j:Int} (hn:0 < l.length) (h0:l[0].src≤j):∀ {k:Nat},k≤l.length→0 < k→(l.take k).reverse.find? (fun s=>decide (s.src≤j))=some (l.getD (zvQ l j k) dS)
 | 0,_,h=>absurd h (Nat.lt_irrefl _)
 | k+1,hk,_=>by
  have hkl:k < l.length:=by omega
  rw [List.take_succ_eq_append_getElem hkl,List.reverse_append,List.reverse_singleton,List.singleton_append,List.find?_cons]
  by_cases h:l[k].src≤j
  ·rw [decide_eq_true h,zvU hkl h,sget hkl]
  ·rw [decide_eq_false h,zvV hkl h]
   rcases Nat.eq_zero_or_pos k with rfl|hp
   ·exact absurd h0 h
   ·exact zDV hn h0 (by omega) hp
theorem zDW {l:List DSurge} {j:Int} (hn:0 < l.length) (h0:l[0].src≤j):l.reverse.find? (fun s=>decide (s.src≤j))=some (l.getD (zvR l j) dS):=by
 have:=zDV hn h0 (Nat.le_refl _) hn
 rwa [List.take_length] at this
theorem zDX {l:List DSurge} {m:Int} (hn:0 < l.length) (h0:l[0].src≤m) :
  ∃ (T B:List DSurge) (s:DSurge),l=T ++ [s] ++ B∧s=l.getD (zvR l m) dS∧s.src≤m∧(∀ y ∈ B,m < y.src)∧(∀ lo hi,revA l m lo hi=(if s.src=m then T else T ++ [s]) ++ [⟨m,max s.low lo,min s.high hi⟩] ++ B):=by
 have hk:zvR l m < l.length:=zvT hn
 have hat:l[zvR l m].src≤m:=zDT (Nat.le_refl _) (fun _=>h0) hk hn
 have haf:∀ j (hj:j < l.length),zvR l m < j→m < l[j].src:=fun j hj h=>zDS (Nat.le_refl _) j hj h hj
 refine ⟨l.take (zvR l m),l.drop (zvR l m+1),l[zvR l m],?_,(sget hk).symm,hat,fun y hy=>?_,fun lo hi=>?_⟩
 ·rw [List.append_assoc,List.singleton_append,List.getElem_cons_drop,List.take_append_drop]
 ·obtain ⟨i,hi,rfl⟩:=List.getElem_of_mem hy
  rw [List.length_drop] at hi
  rw [List.getElem_drop]
  exact haf _ (by omega) (by omega)
 ·rw [revA,sget hk,List.take_succ_eq_append_getElem hk]
theorem zDY {l:List DSurge} {m lo hi j:Int} (hn:0 < l.length) (h0:l[0].src≤m) (h0j:l[0].src≤j) (hf:∃ h:0 < (revA l m lo hi).length,(revA l m lo hi)[0].src≤j) :
  (l.getD (zvR l j) dS).low≤((revA l m lo hi).getD (zvR (revA l m lo hi) j) dS).low:=by
 obtain ⟨T,B,s,e,_,hs,hB,hr⟩:=zDX hn h0
 obtain ⟨hf1,hf2⟩:=hf
 have f1:=zDW hn h0j
 have f2:=zDW hf1 hf2
 rw [hr lo hi] at f2 ⊢
 conv at f1=>lhs;rw [e]
 rw [List.reverse_append,List.reverse_append,List.reverse_singleton,List.find?_append,List.find?_append] at f1 f2
 cases hb:B.reverse.find? (fun s=>decide (s.src≤j)) with
 | some y =>
  rw [hb] at f1 f2
  rw [← Option.some.inj f1,← Option.some.inj f2]
  exact Int.le_refl _
 | none =>
  rw [hb,Option.none_or] at f1 f2
  by_cases hj:m≤j
  ·rw [List.find?_cons,decide_eq_true (show s.src≤j by omega)] at f1
   rw [List.find?_cons,decide_eq_true (show (⟨m,max s.low lo,min s.high hi⟩:DSurge).src≤j from hj)] at f2
   rw [← Option.some.inj f1,← Option.some.inj f2]
   show s.low≤max s.low lo
   omega
  ·rw [List.find?_cons,decide_eq_false (show ¬ (⟨m,max s.low lo,min s.high hi⟩:DSurge).src≤j from hj),List.find?_nil,Option.none_or] at f2
   by_cases hsm:s.src=m
   ·rw [if_pos hsm] at f2 ⊢
    rw [List.find?_cons,decide_eq_false (show ¬ s.src≤j by omega),List.find?_nil,Option.none_or] at f1
    rw [f1] at f2
    rw [Option.some.inj f2]
    exact Int.le_refl _
   ·rw [if_neg hsm] at f2 ⊢
    rw [List.reverse_append,List.reverse_singleton,List.find?_append] at f2
    rw [f1] at f2
    rw [Option.some.inj f2]
    exact Int.le_refl _
def BigL (k:Nat) (y:Int):Prop:=-(1000+922337203685478 * (k:Int))≤y∧y≤1000+922337203685478 * (k:Int)
theorem zDZ {m:Int} {p:DPart} {acc:Int} {k:Nat} (h:BigL k acc) (hk:k≤4):BigL (k+1) (zvZ m acc p):=by
 have hw:=i64w (p.amp * zvY (IntKind.i64.wrap (m+p.phase)) p.period)
 unfold I64 at hw
 unfold zvZ
 generalize IntKind.i64.wrap (p.amp * zvY (IntKind.i64.wrap (m+p.phase)) p.period)=y at *
 have hq:-922337203685478≤Int.tdiv y 10000∧Int.tdiv y 10000≤922337203685478:=by
  rcases Int.le_total 0 y with h9|h9
  ·rw [Int.tdiv_eq_ediv_of_nonneg h9];omega
  ·obtain ⟨z,rfl⟩:∃ z,y=-z:=⟨-y,by omega⟩
   rw [Int.neg_tdiv,Int.tdiv_eq_ediv_of_nonneg (by omega)];omega
 generalize Int.tdiv y 10000=q at *
 unfold BigL at h ⊢
 rw [zjz (n:=q) (by omega),zjz (by omega)]
 omega
theorem zD0 {m:Int} (l:List DPart):∀ {acc:Int} {k:Nat},BigL k acc→k+l.length≤4→BigL (k+l.length) (l.foldl (zvZ m) acc):=by
 induction l with
 | nil=>intro acc k h _;exact h
 | cons p l ih =>
  intro acc k h hk
  rw [List.length_cons] at hk
  have:=ih (zDZ (m:=m) (p:=p) h (by omega)) (by omega)
  rw [List.foldl_cons,List.length_cons,show k+(l.length+1)=(k+1)+l.length by omega]
  exact this
theorem zD1 {t:PTide} (h:zuS t=true) (m:Int):BigL 4 (zv0 t m):=by
 rw [zuS,In,jJ,jJ,jJ,decide_eq_true_eq,decide_eq_true_eq,decide_eq_true_eq] at h
 have h0:BigL 0 t.mean:=by unfold BigL;omega
 have:=zD0 (m:=m) t.parts h0 (by omega)
 rw [zv0]
 unfold BigL at *
 omega
theorem zD2 {f:PForecast} (h:zuY f=true) (m:Int):zv1 f m=zv0 f.tide m+(f.surges.getD (zvR f.surges m) dS).low:=by
 have h1:=zvW h
 have h2:=zvT (m:=m) h1
 rw [zuY,jJ,jJ,jJ,decide_eq_true_eq,decide_eq_true_eq] at h
 have h3:=zD1 h.1.1.1 m
 have h4:=h.2 _ h2
 rw [zuX,zuK,In,In,In] at h4
 simp only [jJ,decide_eq_true_eq] at h4
 unfold BigL at h3
 rw [zv1,zjz (by omega)]
theorem zD3 {l:List DSurge} (h:∀ i,i < l.length→zuX l i=true):(∀ y ∈ l,zuK y=true)∧l.Pairwise fun a b=>a.src < b.src:=by
 have h1:∀ i (hi:i < l.length),zuK l[i]=true∧(0 < i→(l.getD (i - 1) dS).src < l[i].src):=fun i hi=>by
  have:=h i hi
  rw [zuX,sget hi,jJ,Bool.not_eq_true',Bool.and_eq_false_iff,decide_eq_false_iff_not,decide_eq_false_iff_not] at this
  exact ⟨this.1,fun h0=>by omega⟩
 refine ⟨fun y hy=>?_,List.pairwise_iff_getElem.2 fun i j hi hj hij=>?_⟩
 ·obtain ⟨i,hi,rfl⟩:=List.getElem_of_mem hy
  exact (h1 i hi).1
 ·induction j with
  | zero=>omega
  | succ j ih =>
   have:=(h1 (j+1) hj).2 (Nat.succ_pos _)
   rw [Nat.add_sub_cancel,sget (show j < l.length by omega)] at this
   rcases Nat.lt_or_ge i j with h2|h2
   ·have:=ih (by omega) h2;omega
   ·obtain rfl:i=j:=by omega
    exact this
theorem zD4 {l:List DSurge} (h:∀ y ∈ l,zuK y=true) (hp:l.Pairwise fun a b=>a.src < b.src):∀ i,i < l.length→zuX l i=true:=fun i hi=>by
 rw [zuX,sget hi,jJ,Bool.not_eq_true',Bool.and_eq_false_iff,decide_eq_false_iff_not,decide_eq_false_iff_not]
 refine ⟨h _ (List.getElem_mem hi),?_⟩
 rcases Nat.eq_zero_or_pos i with h0|h0
 ·exact .inl (by omega)
 ·refine .inr ?_
  rw [sget (show i - 1 < l.length by omega)]
  have:=List.pairwise_iff_getElem.1 hp (i - 1) i (by omega) hi (by omega)
  omega
theorem zD5 {f:PForecast} (h:zuY f=true):zuS f.tide=true∧(0 < f.surges.length∧f.surges.length≤6)∧(f.surges.getD 0 dS).src=0∧(∀ y ∈ f.surges,zuK y=true)∧f.surges.Pairwise fun a b=>a.src < b.src:=by
 rw [zuY,In,jJ,jJ,jJ,jJ,decide_eq_true_eq,decide_eq_true_eq,decide_eq_true_eq,decide_eq_true_eq] at h
 obtain ⟨h1,h2⟩:=zD3 h.2
 exact ⟨h.1.1.1,by omega,h.1.2,h1,h2⟩
theorem zD6 {f:PForecast} (h1:zuS f.tide=true) (h2:0 < f.surges.length∧f.surges.length≤6) (h3:(f.surges.getD 0 dS).src=0) (h4:∀ y ∈ f.surges,zuK y=true) (h5:f.surges.Pairwise fun a b=>a.src < b.src):zuY f=true:=by
 rw [zuY,In,h1,Bool.true_and,jJ,jJ,jJ,decide_eq_true_eq,decide_eq_true_eq,decide_eq_true_eq,decide_eq_true_eq]
 exact ⟨⟨by omega,h3⟩,zD4 h4 h5⟩
def zD7 (f:PForecast) (m:Int):DSurge:=f.surges.getD (zvR f.surges m) dS
theorem zD8 {f:PForecast} (h:zuY f=true) (m:Int):-500≤(zD7 f m).low∧(zD7 f m).low≤(zD7 f m).high∧(zD7 f m).high≤500:=by
 obtain ⟨_,h2,_,h4,_⟩:=zD5 h
 have hk:=zvT (m:=m) h2.1
 have:=h4 _ (List.getElem_mem hk)
 rw [zD7,sget hk]
 rw [zuK,In,In,In] at this
 simp only [jJ,decide_eq_true_eq] at this
 omega
theorem zD9 {f:PForecast} (h:zuY f=true) {m lo:Int} (hm:0≤m∧m≤2880) (hlo:(zD7 f m).low≤lo∧lo≤(zD7 f m).high) (h6:f.surges.length < 6):∃ g,zDU f m lo (zD7 f m).high=some g:=by
 obtain ⟨h1,h2,h3,h4,h5⟩:=zD5 h
 have h0:f.surges[0].src=0:=by rw [← sget h2.1];exact h3
 obtain ⟨T,B,s,e,es,hs,hB,hr⟩:=zDX (m:=m) h2.1 (by omega)
 have hb:=zD8 h m
 rw [zD7,← es] at hb hlo ⊢
 rw [zDU,if_pos ⟨h,hm⟩,if_pos]
 ·exact ⟨_,rfl⟩
 have hl:f.surges.length=T.length+1+B.length:=by
  have:=congrArg List.length e
  rwa [List.length_append,List.length_append,List.length_singleton] at this
 have hT:∀ y ∈ T,zuK y=true∧y.src < s.src:=fun y hy=>by
  refine ⟨h4 y (by rw [e];simp [hy]),?_⟩
  rw [e,List.pairwise_append,List.pairwise_append] at h5
  exact h5.1.2.2 y hy s (List.mem_singleton.2 rfl)
 have hsok:zuK s=true:=h4 s (by rw [e];simp)
 have hBok:∀ y ∈ B,zuK y=true:=fun y hy=>h4 y (by rw [e];simp [hy])
 have hTp:T.Pairwise fun a b=>a.src < b.src:=by rw [e,List.pairwise_append,List.pairwise_append] at h5;exact h5.1.1
 have hBp:B.Pairwise fun a b=>a.src < b.src:=by rw [e,List.pairwise_append] at h5;exact h5.2.1
 have hc:zuK ⟨m,max s.low lo,min s.high s.high⟩=true:=by
  rw [zuK,In,In,In]
  simp only [jJ,decide_eq_true_eq]
  omega
 have hAok:∀ y ∈ (if s.src=m then T else T ++ [s]),zuK y=true∧y.src < m:=fun y hy=>by
  split at hy
  ·rename_i hsm
   have:=hT y hy
   exact ⟨this.1,by omega⟩
  ·rename_i hsm
   rcases List.mem_append.1 hy with hy|hy
   ·have:=hT y hy
    exact ⟨this.1,by omega⟩
   ·rw [List.mem_singleton.1 hy]
    exact ⟨hsok,by omega⟩
 have hAp:(if s.src=m then T else T ++ [s]).Pairwise fun a b=>a.src < b.src:=by
  split
  ·exact hTp
  ·rw [List.pairwise_append]
   exact ⟨hTp,List.pairwise_singleton ..,fun y hy z hz=>by rw [List.mem_singleton.1 hz];exact (hT y hy).2⟩
 refine zD6 h1 ?_ ?_ ?_ ?_
 ·show 0 < (revA f.surges m lo s.high).length∧(revA f.surges m lo s.high).length≤6
  rw [hr,List.length_append,List.length_append,List.length_singleton]
  split
  ·omega
  ·rw [List.length_append,List.length_singleton];omega
 ·show ((revA f.surges m lo s.high).getD 0 dS).src=0
  rw [hr]
  match T,e,hT with
  | t :: T,e,hT =>
   have h9:t.src=0:=by rw [e] at h3;exact h3
   split <;> exact h9
  | [],e,hT =>
   have h9:s.src=0:=by rw [e] at h3;exact h3
   split
   ·rename_i hsm
    show m=0
    omega
   ·exact h9
 ·show ∀ y ∈ revA f.surges m lo s.high,zuK y=true
  intro y hy
  rw [hr] at hy
  rcases List.mem_append.1 hy with hy|hy
  ·rcases List.mem_append.1 hy with hy|hy
   ·exact (hAok y hy).1
   ·rw [List.mem_singleton.1 hy];exact hc
  ·exact hBok y hy
 ·show (revA f.surges m lo s.high).Pairwise _
  rw [hr,List.pairwise_append,List.pairwise_append]
  refine ⟨⟨hAp,List.pairwise_singleton ..,fun y hy z hz=>?_⟩,hBp,fun y hy z hz=>?_⟩
  ·rw [List.mem_singleton.1 hz];exact (hAok y hy).2
  ·rcases List.mem_append.1 hy with hy|hy
   ·have:=(hAok y hy).2;have:=hB z hz;omega
   ·rw [List.mem_singleton.1 hy];exact hB z hz
theorem zEa {f g:PForecast} {m lo hi:Int} (h:zDU f m lo hi=some g):zuY f=true∧(0≤m∧m≤2880)∧zuY g=true∧g={ f with surges:=revA f.surges m lo hi }:=by
 rw [zDU] at h
 split at h
 ·rename_i h1
  split at h
  ·rename_i h2
   obtain rfl:=Option.some.inj h
   exact ⟨h1.1,h1.2,h2,rfl⟩
  ·cases h
 ·cases h
theorem zEb {f g:PForecast} {m lo hi:Int} (h:zDU f m lo hi=some g) {j:Int} (hj:0≤j):zv1 f j≤zv1 g j:=by
 obtain ⟨h1,hm,h2,rfl⟩:=zEa h
 rw [zD2 h1,zD2 h2]
 obtain ⟨_,a2,a3,_,_⟩:=zD5 h1
 obtain ⟨_,b2,b3,_,_⟩:=zD5 h2
 have a0:f.surges[0].src=0:=by rw [← sget a2.1];exact a3
 have b4:0 < (revA f.surges m lo hi).length:=b2.1
 have b0:(revA f.surges m lo hi)[0].src=0:=by rw [← sget b4];exact b3
 have:=zDY (l:=f.surges) (m:=m) (lo:=lo) (hi:=hi) (j:=j) a2.1 (by omega) (by omega) ⟨b4,by omega⟩
 exact Int.add_le_add_left this _
theorem zEc {f g:PForecast} (hf:zuY f=true) (hg:zuY g=true) (hl:∀ j,0≤j→zv1 f j≤zv1 g j) {c:PChart} {k:Int} {s:DShip} {t:Int} (h:zCq f c k s t=true):zCq g c k s t=true:=by
 rw [zCq,zwO] at h ⊢
 by_cases ho:zwF c k s=true
 ·rw [if_pos ⟨hf,ho⟩,zwB] at h
  rw [if_pos ⟨hg,ho⟩,zwB]
  obtain ⟨hC,_,hk0,hk1⟩:=zwI ho
  have hm:=zBh (s:=s) (zBi hC (i:=k.toNat) (by omega))
  have hM:0≤zwH c k s∧zwH c k s≤2880:=by rw [zwH,if_pos ho];omega
  obtain ⟨b1,b2,b3⟩:=(zDR hM).1 h
  refine (zDR hM).2 ⟨b1,b2,fun j h3 h4=>?_⟩
  have:=of_decide_eq_true (b3 j h3 h4)
  have:=hl j (by omega)
  exact decide_eq_true (by omega)
 ·rw [if_neg (fun h=>ho h.2)] at h
  cases h
theorem zEd {f g:PForecast} (hf:zuY f=true) (hg:zuY g=true) (hl:∀ j,0≤j→zv1 f j≤zv1 g j) {c:PChart} {fl:List DShip} {p:DPassage} (h:zCr f c fl p=true):zCr g c fl p=true:=by
 rw [zCr,jJ] at h ⊢
 exact ⟨h.1,zEc hf hg hl h.2⟩
def zEe (n:Int) (w:DWindow):Int:=IntKind.i64.wrap (n+IntKind.i64.wrap (IntKind.i64.wrap (w.dst - w.src)+1))
def zEf (l:List DWindow):Int:=if zwa l=true then l.foldl zEe 0 else -1
def WAp (l:List DWindow):Prop:=(∀ w ∈ l,0≤w.src∧w.src≤w.dst∧w.dst≤2880)∧l.Pairwise fun a b=>a.dst+1 < b.src
theorem zEg {l:List DWindow} (h:WAp l):zwa l=true:=by
 obtain ⟨h1,h3⟩:=h
 refine decide_eq_true fun i hi=>?_
 rw [zv9,wget hi,decide_eq_true_eq]
 obtain ⟨a1,a2,a3⟩:=h1 _ (List.getElem_mem hi)
 refine ⟨⟨a1,a2,a3⟩,fun h0=>?_⟩
 rw [wget (show i - 1 < l.length by omega)]
 have:=List.pairwise_iff_getElem.1 h3 (i - 1) i (by omega) hi (by omega)
 obtain ⟨b1,b2,b3⟩:=h1 _ (List.getElem_mem (show i - 1 < l.length by omega))
 rw [zjz (by omega)]
 exact this
theorem zEh {f:PForecast} {c:PChart} {k:Int} {s:DShip}:WAp (zwO f c k s):=by
 rw [zwO]
 split
 ·rename_i ho
  obtain ⟨hC,_,hk0,hk1⟩:=zwI ho.2
  have hm:=zBh (s:=s) (zBi hC (i:=k.toNat) (by omega))
  have hM:0≤zwH c k s∧zwH c k s≤2880:=by rw [zwH,if_pos ho.2];omega
  generalize zwH c k s=n at hM
  rw [zwB]
  generalize (fun m:Nat=>decide (zwG c k s≤zv1 f m))=p
  have hr:=zDP (p:=p) (k:=2881)
  have hok:=zDQ hr (Nat.le_refl _)
  obtain ⟨h1,h2,h3⟩:=hr
  rw [zwd,if_pos ⟨hok,hM.1,hM.2⟩]
  refine ⟨fun w hw=>?_,?_⟩
  ·obtain ⟨z,hz,rfl⟩:=List.mem_map.1 hw
   obtain ⟨hz,hs⟩:=List.mem_filter.1 hz
   obtain ⟨a1,a2,a3,a4⟩:=h1 z hz
   rw [shr,decide_eq_true_eq,zjz (by omega)] at hs
   show 0≤z.src∧z.src≤IntKind.i64.wrap (z.dst - n)∧IntKind.i64.wrap (z.dst - n)≤2880
   rw [zjz (by omega)]
   omega
  ·rw [List.pairwise_map]
   have hp:=h3.filter (shr n)
   rw [List.pairwise_iff_getElem] at hp ⊢
   intro i j hi hj hij
   have h5:=hp i j hi hj hij
   obtain ⟨a1,a2,a3,a4⟩:=h1 _ (List.mem_filter.1 (List.getElem_mem hi)).1
   show IntKind.i64.wrap (_ - n)+1 < _
   rw [zjz (by omega)]
   show _ < ((zwp p 2881).filter (shr n))[j].src
   omega
 ·exact ⟨fun w hw=>(by cases hw),List.Pairwise.nil⟩
theorem zEi {a b:Int} (ha:0≤a) (hab:a≤b+1):∀ n:Nat,(((List.range n).countP fun j:Nat=>In (j:Int) a b:Nat):Int)=min (n:Int) (b+1) - min (n:Int) a
 | 0=>by show (0:Int)=_;omega
 | n+1=>by
  rw [List.range_succ,List.countP_append,List.countP_singleton,Int.natCast_add,zEi ha hab n]
  by_cases h:In (n:Int) a b=true
  ·rw [if_pos h]
   rw [In,jJ,decide_eq_true_eq,decide_eq_true_eq] at h
   omega
  ·rw [if_neg h]
   rw [In,jJ,decide_eq_true_eq,decide_eq_true_eq] at h
   omega
theorem zEj {α:Type} {p q:α→Bool}:∀ {l:List α},(∀ x ∈ l,¬ (p x=true∧q x=true))→l.countP (fun x=>p x || q x)=l.countP p+l.countP q
 | [],_=>rfl
 | x :: l,h=>by
  have ih:=zEj (l:=l) fun y hy=>h y (List.mem_cons_of_mem _ hy)
  have hx:=h x (List.mem_cons_self ..)
  rw [List.countP_cons,List.countP_cons,List.countP_cons,ih]
  cases hp:p x <;> cases hq:q x <;> simp_all <;> omega
theorem zEk:∀ {l:List DWindow} {n:Int},WAp l→0≤n→n+((List.range 2881).countP fun j:Nat=>zwb l j:Nat)≤100000 →
  l.foldl zEe n=n+((List.range 2881).countP fun j:Nat=>zwb l j:Nat)
 | [],n,_,_,_=>by
  have:((List.range 2881).countP fun j:Nat=>zwb [] j)=0:=List.countP_eq_zero.2 fun j _ h=>by cases h
  rw [this];show n=n+0;omega
 | w :: l,n,hW,hn,hle=>by
  obtain ⟨h1,h2⟩:=hW
  rw [List.pairwise_cons] at h2
  have hw:=h1 w (List.mem_cons_self ..)
  have e:((List.range 2881).countP fun j:Nat=>zwb (w :: l) j)=((List.range 2881).countP fun j:Nat=>In (j:Int) w.src w.dst)+((List.range 2881).countP fun j:Nat=>zwb l j):=by
   have:(fun j:Nat=>zwb (w :: l) j)=fun j:Nat=>In (j:Int) w.src w.dst || zwb l j:=rfl
   rw [this]
   refine zEj fun j _ h=>?_
   obtain ⟨h3,h4⟩:=h
   rw [In,jJ,decide_eq_true_eq,decide_eq_true_eq] at h3
   obtain ⟨z,hz,h5,h6⟩:=zDO.1 h4
   have:=h2.1 z hz
   omega
  have ei:=zEi (a:=w.src) (b:=w.dst) hw.1 (by omega) 2881
  rw [e,Int.natCast_add] at hle ⊢
  have ei2:(((List.range 2881).countP fun j:Nat=>In (j:Int) w.src w.dst:Nat):Int)=w.dst - w.src+1:=by rw [ei];omega
  rw [ei2] at hle ⊢
  have hs:zEe n w=n+(w.dst - w.src+1):=by
   rw [zEe,zjz (n:=w.dst - w.src) (by omega),zjz (n:=w.dst - w.src+1) (by omega),zjz (by omega)]
  rw [List.foldl_cons,hs,zEk ⟨fun z hz=>h1 z (List.mem_cons_of_mem _ hz),h2.2⟩ (by omega) (by omega)]
  omega
theorem zEl {l:List DWindow} (h:WAp l):zEf l=((List.range 2881).countP fun j:Nat=>zwb l j:Nat):=by
 have hb:((List.range 2881).countP fun j:Nat=>zwb l j)≤2881:=by
  have:=List.countP_le_length (l:=List.range 2881) (p:=fun j:Nat=>zwb l j)
  rwa [List.length_range] at this
 rw [zEf,if_pos (zEg h),zEk h (Int.le_refl _) (by omega)]
 omega
theorem zEm {f g:PForecast} (hf:zuY f=true) (hg:zuY g=true) (hl:∀ j,0≤j→zv1 f j≤zv1 g j) {c:PChart} {k:Int} {s:DShip}:zEf (zwO f c k s)≤zEf (zwO g c k s):=by
 rw [zEl zEh,zEl zEh]
 exact Int.ofNat_le.2 (List.countP_mono_left fun j _ h=>zEc hf hg hl h)
theorem zEn {x:PHarbour} {g:PForecast} (h:zvo x=true) (hg:zuY g=true):zvo { x with forecast:=g }=true:=by
 rw [zvo] at h ⊢
 simp only [jJ] at h ⊢
 exact ⟨⟨⟨⟨hg,h.1.1.1.2⟩,h.1.1.2⟩,h.1.2⟩,h.2⟩
theorem zEo {x:DHarbour} {a:DCall} (hok:zvB (Con.con x) a=true) {lo:Int} (hlo:(zD7 (Con.con x.forecast) a.ready).low≤lo∧lo≤(zD7 (Con.con x.forecast) a.ready).high) :
  (zDU (Con.con x.forecast) a.ready lo (zD7 (Con.con x.forecast) a.ready).high=none→6≤(Con.con x.forecast:PForecast).surges.length) ∧
  ∀ g,zDU (Con.con x.forecast) a.ready lo (zD7 (Con.con x.forecast) a.ready).high=some g →
   (∀ o ∈ zy1 (Con.con x) a,∀ p ∈ o.pas,zCr g (Con.con x.chart) x.fleet.l p=true) ∧
   (∀ (k:Int) (s:DShip),zEf (zwO (Con.con x.forecast) (Con.con x.chart) k s)≤zEf (zwO g (Con.con x.chart) k s)) ∧
   zvo { (Con.con x:PHarbour) with forecast:=g }=true:=by
 obtain ⟨hf,_,_,_,_,_,_,_,_,_,hr0,hr1,hr2,hr3⟩:=zyE hok
 refine ⟨fun h=>?_,fun g h=>?_⟩
 ·rcases Nat.lt_or_ge (Con.con x.forecast:PForecast).surges.length 6 with h6|h6
  ·obtain ⟨g,e⟩:=zD9 hf ⟨hr0,hr1⟩ hlo h6
   rw [h] at e;cases e
  ·exact h6
 ·obtain ⟨_,_,hg,_⟩:=zEa h
  have hl:∀ j,0≤j→zv1 (Con.con x.forecast) j≤zv1 g j:=fun j hj=>zEb h hj
  refine ⟨fun o ho p hp=>zEd hf hg hl (zCv hok ho hp).2,fun k s=>zEm hf hg hl,?_⟩
  rw [zvB,jJ] at hok
  exact zEn hok.1 hg
def zEp (f:PForecast) (m:Int):Int × Int × Bool:=if zuY f=true∧0≤m∧m≤2880 then ((zD7 f m).low,(zD7 f m).high,true) else (0,0,false)
theorem zEq {f:PForecast} {m:Int} (h:¬ (zuY f=true∧0≤m∧m≤2880)):(zuY f && (decide (0≤m) && decide (m≤2880)))=false:=by
 rw [Bool.eq_false_iff]
 intro h9
 rw [jJ,jJ,decide_eq_true_eq,decide_eq_true_eq] at h9
 exact h h9
set_option maxRecDepth 100000 in
theorem zEr (f:DForecast) (m:Int) (h:Hp) (hf:Enc.ok h f):Ct jV 32 [f.v,.int .i64 m] h fun v h'=>v=.tuple #[.int .i64 (zEp (Con.con f) m).1,.int .i64 (zEp (Con.con f) m).2.1,.bool (zEp (Con.con f) m).2.2]∧h'=h:=by
 by_cases hq:zuY (Con.con f)=true∧0≤m∧m≤2880
 case neg =>
  rw [zEp,if_neg hq]
  refine zdn (fun A W=>by simp) Try.func32 rfl rfl (by simp) fun W0=>?_
  repeat' first|refine Wa ?_|refine zhF (fun _=>zu0 f _ hf) ?_|refine zhF (fun _=>zun _ _) ?_|(simp only [go_sem,jq,jj,jy,jv,jk,jx];try rfl)|refine Wb ?_|fail
  refine zc9 rfl (fun hc=>?_) (fun hc=>?_)
  ·exact Wk0
  ·have:=zEq hq
   rw [← Bool.not_eq_true',Bool.not_and,Bool.not_and] at this
   simp_all
 rw [zEp,if_pos hq]
 have hfo:=hq.1
 have m0:(0≤m)=True:=eq_true hq.2.1
 have m1:(m≤2880)=True:=eq_true hq.2.2
 have hn:0 < f.surges.l.length:=by have:=zvW hfo;rwa [zvX] at this
 have hsu:zD7 (Con.con f) m=f.surges.l.getD (zvR f.surges.l m) dS:=by rw [zD7,zvX]
 obtain ⟨k,hk⟩:∃ k,zvR f.surges.l m=k:=⟨_,rfl⟩
 have hs:k < f.surges.l.length:=by rw [← hk];exact zvT hn
 rw [hsu,hk,sget hs]
 have hsi:(k:Int) < f.surges.l.length:=by omega
 refine zdn (fun A W=>by simp) Try.func32 rfl rfl (by simp) fun W0=>?_
 repeat' first|refine Wa ?_|refine zhF (fun _=>zu0 f _ hf) ?_|refine zhF (fun _=>zun _ _) ?_|(simp only [go_sem,jq,jj,jy,jv,jk,jx];try rfl)|refine Wb ?_|fail
 simp only [go_sem,jq,jj,jy,jv,jk,jx,hfo,m0,m1,decide_true,Bool.not_true,Bool.or_false,Bool.and_true]
 refine zc9 rfl (fun hc=>?_) (fun hc=>?_)
 ·cases hc
 refine Wk ?_
 refine znv rfl ?_
 refine U_t [0,2,3,1] rfl ?_
 simp only [go_sem,jq,jj,jy,jv,jk,jx,hk,Int.toNat_zero,Nat.zero_mul,zmA,zmB,zkM hf.2 hs,hf.2.some hs,hs,hsi,jW,jY,implies_true,true_and,and_true,and_self]
 refine U_m 4 [7] ⟨?_,?_,trivial⟩
 ·refine U_b 4 0 [1,0] rfl rfl ?_
  simp only [go_sem,jq,jj,jy,jv,jk,jx,hk,Int.toNat_zero,Nat.zero_mul,zmA,zmB,zkM hf.2 hs,hf.2.some hs,hs,hsi,jW,jY,implies_true,true_and,and_true,and_self]
  refine zhF (fun _=>zv2 f m _ hf) ?_
  simp only [go_sem,jq,jj,jy,jv,jk,jx,hk,Int.toNat_zero,Nat.zero_mul,zmA,zmB,zkM hf.2 hs,hf.2.some hs,hs,hsi,jW,jY,implies_true,true_and,and_true,and_self]
  refine U_t [5,6] rfl ?_
  simp only [go_sem,jq,jj,jy,jv,jk,jx,hk,Int.toNat_zero,Nat.zero_mul,zmA,zmB,zkM hf.2 hs,hf.2.some hs,hs,hsi,jW,jY,implies_true,true_and,and_true,and_self]
  refine U_1 7 0 [6,5,1,0] rfl rfl ?_
  simp only [go_sem,jq,jj,jy,jv,jk,jx,hk,Int.toNat_zero,Nat.zero_mul,zmA,zmB,zkM hf.2 hs,hf.2.some hs,hs,hsi,jW,jY,implies_true,true_and,and_true,and_self]
  refine U_1 8 0 [] rfl rfl ?_
  simp only [go_sem,jq,jj,jy,jv,jk,jx,hk,Int.toNat_zero,Nat.zero_mul,zmA,zmB,zkM hf.2 hs,hf.2.some hs,hs,hsi,jW,jY,implies_true,true_and,and_true,and_self]
  refine U_d ?_
  repeat' first|refine zc8 ?_|(refine zc5 ?_;simp only [go_sem,jq,jj,jy,jv,jk,jx])|refine zc3 ?_
  refine znv rfl ?_
  refine U_t [0,2,1,3,4,5,6] rfl ?_
  simp only [go_sem,jq,jj,jy,jv,jk,jx,hk,Int.toNat_zero,Nat.zero_mul,zmA,zmB,zkM hf.2 hs,hf.2.some hs,hs,hsi,jW,jY,implies_true,true_and,and_true,and_self]
  refine U_d ?_
  exact Wk0
 ·refine U_b 7 0 [1,2,0] rfl rfl ?_
  simp only [go_sem,jq,jj,jy,jv,jk,jx,hk,Int.toNat_zero,Nat.zero_mul,zmA,zmB,zkM hf.2 hs,hf.2.some hs,hs,hsi,jW,jY,implies_true,true_and,and_true,and_self]
  refine U_1 4 0 [1,0] rfl rfl ?_
  simp only [go_sem,jq,jj,jy,jv,jk,jx,hk,Int.toNat_zero,Nat.zero_mul,zmA,zmB,zkM hf.2 hs,hf.2.some hs,hs,hsi,jW,jY,implies_true,true_and,and_true,and_self]
  refine zhF (fun _=>zv2 f m _ hf) ?_
  simp only [go_sem,jq,jj,jy,jv,jk,jx,hk,Int.toNat_zero,Nat.zero_mul,zmA,zmB,zkM hf.2 hs,hf.2.some hs,hs,hsi,jW,jY,implies_true,true_and,and_true,and_self]
  refine U_t [5,6] rfl ?_
  simp only [go_sem,jq,jj,jy,jv,jk,jx,hk,Int.toNat_zero,Nat.zero_mul,zmA,zmB,zkM hf.2 hs,hf.2.some hs,hs,hsi,jW,jY,implies_true,true_and,and_true,and_self]
  refine U_1 8 0 [] rfl rfl ?_
  simp only [go_sem,jq,jj,jy,jv,jk,jx,hk,Int.toNat_zero,Nat.zero_mul,zmA,zmB,zkM hf.2 hs,hf.2.some hs,hs,hsi,jW,jY,implies_true,true_and,and_true,and_self]
  refine U_d ?_
  repeat' first|refine zc8 ?_|(refine zc5 ?_;simp only [go_sem,jq,jj,jy,jv,jk,jx])|refine zc3 ?_
  refine znv rfl ?_
  refine U_t [0,2,1,3,4,5,6] rfl ?_
  simp only [go_sem,jq,jj,jy,jv,jk,jx,hk,Int.toNat_zero,Nat.zero_mul,zmA,zmB,zkM hf.2 hs,hf.2.some hs,hs,hsi,jW,jY,implies_true,true_and,and_true,and_self]
  refine U_d ?_
  exact Wk0
set_option maxRecDepth 100000 in
theorem zEs (a:Sl DWindow) (h:Hp) (ha:a.Ok h):Ct jV 34 [a.val] h fun v h'=>v=.int .i64 (zEf a.l)∧h'=h:=by
 have hl:=ha.max
 rw [zEf]
 refine zdn (fun A W=>by simp) Try.func34 rfl rfl (by simp) fun W0=>?_
 repeat' first|refine Wa ?_|refine zhF (fun _=>zwe a _ ha) ?_|(simp only [go_sem,jq,jj,jy,jv,jk,jx];try rfl)|refine Wb ?_|fail
 refine zc9 rfl (fun hc=>?_) (fun hc=>?_)
 ·rw [if_neg (by simpa using hc)]
  exact Wk0
 rw [if_pos (by simpa using hc)]
 refine Wk ?_
 refine zde (ι:=Nat) (fun k=>⟨[(2,true,.c (.v (.int .i64 0))),(3,true,.c (.v (.int .i64 ((a.l.take k).foldl zEe 0)))),(9,true,.c (.v a.val)),(10,true,.c (.v (.int .i64 a.l.length))),(11,true,.c (.v (.int .i64 k)))],[],h,0⟩) (fun k=>k≤a.l.length) (fun k=>a.l.length - k) 0 (Nat.zero_le _) ?_ ?_
 ·refine Evs ?_
  exact Gk
 intro k hk
 refine Wk ?_
 refine zc9 rfl (fun hd=>?_) (fun hd=>?_)
 ·have hlt:=zjH hd
  repeat' first|refine Wa ?_|(simp only [go_sem,jq,jj,jy,jv,jk,jx,zlc ha hlt,zlU ha hlt,ha.some hlt,hlt,jW];try rfl)|refine Wb ?_|fail
  refine ⟨k+1,hlt,by omega,?_⟩
  rw [zuz _ _ hlt,zjA hlt (by omega)]
  exact Gk
 ·have hge:=zjI hd
  refine Wk ?_
  rw [List.take_of_length_le hge]
theorem zEt (a:Sl DPart) (h:Hp) (ha:a.Ok h) (hz:a.l.length≤1048576):Ct jV 115 [a.val] h fun v h'=>∃ s:Sl DPart,v=s.val∧s.l=a.l∧s.Ok h'∧Mine h h' s:=by
 have hall:=ha.all (by decide)
 have hd:(h.ldL a.val 3).isSome=true:=by rw [show h.ldL a.val 3=_ from hall];rfl
 refine zdn (fun A W=>by simp) Try.func115 rfl rfl (by simp) fun W0=>?_
 repeat' first|refine Wa ?_|(simp only [go_sem,jq,jj,jy,jv,jk,jx,hall,show h.ldL a.val 3=some (a.l.flatMap Enc.enc) from hall,Option.isSome_some,Option.getD_some];try rfl)|refine Wb ?_|fail
 refine ⟨by simp only [maxLen];omega,by omega,?_⟩
 repeat' first|refine Wa ?_|(simp only [go_sem,jq,jj,jy,jv,jk,jx,hall,show h.ldL a.val 3=some (a.l.flatMap Enc.enc) from hall,Option.isSome_some,Option.getD_some];try rfl)|refine Wb ?_|fail
 refine ⟨fun u hu=>by obtain ⟨x,_,hx⟩:=List.mem_flatMap.1 hu;exact Enc.one x u hx,by simp only [maxLen];omega,by omega,?_⟩
 refine zlE 1 a.l rfl rfl (Nat.zero_add _) rfl (by decide) (fun x hx=>ha.2.2.2.1 x hx) h (Hp.le_refl _) (Mines.flat (fun _=>rfl) (fun _=>trivial)) fun s h' e1 e2 e3 e4=>?_
 refine Wk ?_
 exact ⟨s,rfl,e1,e2,e4⟩
theorem zEu (a:Sl DSurge) (h:Hp) (ha:a.Ok h) (hz:a.l.length≤1048576):Ct jV 97 [a.val] h fun v h'=>∃ s:Sl DSurge,v=s.val∧s.l=a.l∧s.Ok h'∧Mine h h' s:=by
 have hall:=ha.all (by decide)
 have hd:(h.ldL a.val 3).isSome=true:=by rw [show h.ldL a.val 3=_ from hall];rfl
 refine zdn (fun A W=>by simp) Try.func97 rfl rfl (by simp) fun W0=>?_
 repeat' first|refine Wa ?_|(simp only [go_sem,jq,jj,jy,jv,jk,jx,hall,show h.ldL a.val 3=some (a.l.flatMap Enc.enc) from hall,Option.isSome_some,Option.getD_some];try rfl)|refine Wb ?_|fail
 refine ⟨by simp only [maxLen];omega,by omega,?_⟩
 repeat' first|refine Wa ?_|(simp only [go_sem,jq,jj,jy,jv,jk,jx,hall,show h.ldL a.val 3=some (a.l.flatMap Enc.enc) from hall,Option.isSome_some,Option.getD_some];try rfl)|refine Wb ?_|fail
 refine ⟨fun u hu=>by obtain ⟨x,_,hx⟩:=List.mem_flatMap.1 hu;exact Enc.one x u hx,by simp only [maxLen];omega,by omega,?_⟩
 refine zlE 1 a.l rfl rfl (Nat.zero_add _) rfl (by decide) (fun x hx=>ha.2.2.2.1 x hx) h (Hp.le_refl _) (Mines.flat (fun _=>rfl) (fun _=>trivial)) fun s h' e1 e2 e3 e4=>?_
 refine Wk ?_
 exact ⟨s,rfl,e1,e2,e4⟩
theorem zEv (a:Sl DPoint) (h:Hp) (ha:a.Ok h) (hz:a.l.length≤1048576):Ct jV 99 [a.val] h fun v h'=>∃ s:Sl DPoint,v=s.val∧s.l=a.l∧s.Ok h'∧Mine h h' s:=by
 have hall:=ha.all (by decide)
 have hd:(h.ldL a.val 2).isSome=true:=by rw [show h.ldL a.val 2=_ from hall];rfl
 refine zdn (fun A W=>by simp) Try.func99 rfl rfl (by simp) fun W0=>?_
 repeat' first|refine Wa ?_|(simp only [go_sem,jq,jj,jy,jv,jk,jx,hall,show h.ldL a.val 2=some (a.l.flatMap Enc.enc) from hall,Option.isSome_some,Option.getD_some];try rfl)|refine Wb ?_|fail
 refine ⟨by simp only [maxLen];omega,by omega,?_⟩
 repeat' first|refine Wa ?_|(simp only [go_sem,jq,jj,jy,jv,jk,jx,hall,show h.ldL a.val 2=some (a.l.flatMap Enc.enc) from hall,Option.isSome_some,Option.getD_some];try rfl)|refine Wb ?_|fail
 refine ⟨fun u hu=>by obtain ⟨x,_,hx⟩:=List.mem_flatMap.1 hu;exact Enc.one x u hx,by simp only [maxLen];omega,by omega,?_⟩
 refine zlE 1 a.l rfl rfl (Nat.zero_add _) rfl (by decide) (fun x hx=>ha.2.2.2.1 x hx) h (Hp.le_refl _) (Mines.flat (fun _=>rfl) (fun _=>trivial)) fun s h' e1 e2 e3 e4=>?_
 refine Wk ?_
 exact ⟨s,rfl,e1,e2,e4⟩
theorem zEw (a:Sl DSegment) (h:Hp) (ha:a.Ok h) (hz:a.l.length≤1048576):Ct jV 100 [a.val] h fun v h'=>∃ s:Sl DSegment,v=s.val∧s.l=a.l∧s.Ok h'∧Mine h h' s:=by
 have hall:=ha.all (by decide)
 have hd:(h.ldL a.val 5).isSome=true:=by rw [show h.ldL a.val 5=_ from hall];rfl
 refine zdn (fun A W=>by simp) Try.func100 rfl rfl (by simp) fun W0=>?_
 repeat' first|refine Wa ?_|(simp only [go_sem,jq,jj,jy,jv,jk,jx,hall,show h.ldL a.val 5=some (a.l.flatMap Enc.enc) from hall,Option.isSome_some,Option.getD_some];try rfl)|refine Wb ?_|fail
 refine ⟨by simp only [maxLen];omega,by omega,?_⟩
 repeat' first|refine Wa ?_|(simp only [go_sem,jq,jj,jy,jv,jk,jx,hall,show h.ldL a.val 5=some (a.l.flatMap Enc.enc) from hall,Option.isSome_some,Option.getD_some];try rfl)|refine Wb ?_|fail
 refine ⟨fun u hu=>by obtain ⟨x,_,hx⟩:=List.mem_flatMap.1 hu;exact Enc.one x u hx,by simp only [maxLen];omega,by omega,?_⟩
 refine zlE 1 a.l rfl rfl (Nat.zero_add _) rfl (by decide) (fun x hx=>ha.2.2.2.1 x hx) h (Hp.le_refl _) (Mines.flat (fun _=>rfl) (fun _=>trivial)) fun s h' e1 e2 e3 e4=>?_
 refine Wk ?_
 exact ⟨s,rfl,e1,e2,e4⟩
theorem zEx (a:Sl DShip) (h:Hp) (ha:a.Ok h) (hz:a.l.length≤1048576):Ct jV 101 [a.val] h fun v h'=>∃ s:Sl DShip,v=s.val∧s.l=a.l∧s.Ok h'∧Mine h h' s:=by
 have hall:=ha.all (by decide)
 have hd:(h.ldL a.val 6).isSome=true:=by rw [show h.ldL a.val 6=_ from hall];rfl
 refine zdn (fun A W=>by simp) Try.func101 rfl rfl (by simp) fun W0=>?_
 repeat' first|refine Wa ?_|(simp only [go_sem,jq,jj,jy,jv,jk,jx,hall,show h.ldL a.val 6=some (a.l.flatMap Enc.enc) from hall,Option.isSome_some,Option.getD_some];try rfl)|refine Wb ?_|fail
 refine ⟨by simp only [maxLen];omega,by omega,?_⟩
 repeat' first|refine Wa ?_|(simp only [go_sem,jq,jj,jy,jv,jk,jx,hall,show h.ldL a.val 6=some (a.l.flatMap Enc.enc) from hall,Option.isSome_some,Option.getD_some];try rfl)|refine Wb ?_|fail
 refine ⟨fun u hu=>by obtain ⟨x,_,hx⟩:=List.mem_flatMap.1 hu;exact Enc.one x u hx,by simp only [maxLen];omega,by omega,?_⟩
 refine zlE 1 a.l rfl rfl (Nat.zero_add _) rfl (by decide) (fun x hx=>ha.2.2.2.1 x hx) h (Hp.le_refl _) (Mines.flat (fun _=>rfl) (fun _=>trivial)) fun s h' e1 e2 e3 e4=>?_
 refine Wk ?_
 exact ⟨s,rfl,e1,e2,e4⟩
theorem zEy (c:DTide) (h:Hp) (hc:Enc.ok h c) (hz:c.parts.l.length≤1048576):Ct jV 96 [.agg #[.int .i64 c.mean,c.parts.val]] h fun v h'=>∃ d:DTide,v=.agg #[.int .i64 d.mean,d.parts.val]∧Con.con d=Con.con c∧Enc.ok h' d∧Mine h h' d:=by
 obtain ⟨o_mean,o_parts⟩:=hc
 refine zdn (fun A W=>by simp) Try.func96 rfl rfl (by simp) fun W0=>?_
 refine Wk ?_
 refine znv rfl ?_
 refine U_t [0,2,1,3] rfl ?_
 refine Evs ?_
 refine U_1 4 0 [1,0] rfl rfl ?_
 refine Evs ?_
 refine zkj (zEt c.parts _ o_parts hz) rfl ?_
 rintro v h_0 le_0 ⟨s_0,rfl,e_0,ok_0,m_0⟩
 refine Evs ?_
 refine U_1 5 0 [] rfl rfl ?_
 refine Evs ?_
 refine U_1 6 0 [] rfl rfl ?_
 refine Evs ?_
 refine U_d ?_
 refine Wk ?_
 exact ⟨⟨c.mean,s_0⟩,rfl,by rw [zkJ,zkJ,zkq,zkq,e_0],⟨o_mean,ok_0⟩,News.mine (m_0.1) m_0.news⟩
theorem zEz (c:DForecast) (h:Hp) (hc:Enc.ok h c) (hz:c.tide.parts.l.length≤1048576) (hz2:c.surges.l.length≤1048576):Ct jV 98 [.agg #[.int .i64 c.tide.mean,c.tide.parts.val,c.surges.val]] h fun v h'=>∃ d:DForecast,v=.agg #[.int .i64 d.tide.mean,d.tide.parts.val,d.surges.val]∧Con.con d=Con.con c∧Enc.ok h' d∧Mine h h' d:=by
 obtain ⟨o_tide,o_surges⟩:=hc
 refine zdn (fun A W=>by simp) Try.func98 rfl rfl (by simp) fun W0=>?_
 refine Wk ?_
 refine znv rfl ?_
 refine U_t [0,3,1,4] rfl ?_
 refine Evs ?_
 refine U_1 2 0 [4,3] rfl rfl ?_
 refine Evs ?_
 refine zkj (zEy c.tide _ o_tide hz) rfl ?_
 rintro v h_0 le_0 ⟨s_0,rfl,e_0,ok_0,m_0⟩
 refine Evs ?_
 refine U_1 5 0 [] rfl rfl ?_
 refine Evs ?_
 refine zkj (zEu c.surges _ (o_surges.mono le_0) hz2) rfl ?_
 rintro v h_1 le_1 ⟨s_1,rfl,e_1,ok_1,m_1⟩
 refine Evs ?_
 refine U_1 6 0 [] rfl rfl ?_
 refine Evs ?_
 refine U_1 7 0 [] rfl rfl ?_
 refine Evs ?_
 refine U_d ?_
 refine Wk ?_
 exact ⟨⟨s_0,s_1⟩,rfl,by rw [zkO,zkO,e_0,zkq,zkq,e_1],⟨Enc.mono le_1 ok_0,ok_1⟩,News.mine ⟨(Mine.on le_1 ok_0 m_0).1,m_1.1⟩ (m_0.news.append le_0 le_1 m_1.news)⟩
structure Lens (c:DHarbour):Prop where
 pa:c.forecast.tide.parts.l.length≤1048576
 su:c.forecast.surges.l.length≤1048576
 po:c.chart.points.l.length≤1048576
 se:c.chart.segments.l.length≤1048576
 fl:c.fleet.l.length≤1048576
 mo:c.crew.moves.l.length≤1048576
theorem zEA {h h0 h1 h2 h3 h4:Hp} {c:DHarbour} {f:DForecast} {p:Sl DPoint} {g:Sl DSegment} {s:Sl DShip} {m:Sl Int} (hc:Enc.ok h c) (le0:h.le h0) (le1:h0.le h1) (le2:h1.le h2) (le3:h2.le h3) (le4:h3.le h4) (kf:Enc.ok h0 f) (kp:p.Ok h1) (kg:g.Ok h2) (ks:s.Ok h3) (km:m.Ok h4)
  (mf:Mine h h0 f) (mp:Mine h0 h1 p) (mg:Mine h1 h2 g) (ms:Mine h2 h3 s) (mm:Mine h3 h4 m):Enc.ok h4 (DHarbour.mk f ⟨p,g⟩ s c.regime ⟨c.crew.tugs,c.crew.pilots,c.crew.rest,m⟩)∧Mine h h4 (DHarbour.mk f ⟨p,g⟩ s c.regime ⟨c.crew.tugs,c.crew.pilots,c.crew.rest,m⟩):=by
 obtain ⟨_,_,_,o_regime,⟨c1,c2,c3,_⟩⟩:=hc
 have kc:Enc.ok h2 (DChart.mk p g):=⟨kp.mono le2,kg⟩
 have mc:Mine h0 h2 (DChart.mk p g):=News.mine ⟨(Mine.on le2 kp mp).1,mg.1⟩ (mp.news.append le1 le2 mg.news)
 have kw:Enc.ok h4 (DCrew.mk c.crew.tugs c.crew.pilots c.crew.rest m):=⟨c1,c2,c3,km⟩
 have mw:Mine h3 h4 (DCrew.mk c.crew.tugs c.crew.pilots c.crew.rest m):=News.mine mm.1 mm.news
 have le12:=Hp.le_trans le1 le2
 exact ⟨⟨Enc.mono (Hp.le_trans (Hp.le_trans le12 le3) le4) kf,Enc.mono (Hp.le_trans le3 le4) kc,ks.mono le4,o_regime,kw⟩,News.mine ⟨(Mine.on (Hp.le_trans (Hp.le_trans le12 le3) le4) kf mf).1,(Mine.on (Hp.le_trans le3 le4) kc mc).1,(Mine.on le4 ks ms).1,mw.1⟩ (((mf.news.append le0 le12 mc.news).append (Hp.le_trans le0 le12) le3 ms.news).append (Hp.le_trans (Hp.le_trans le0 le12) le3) le4 mw.news)⟩
set_option maxRecDepth 30000 in
theorem zEB (c:DHarbour) (h:Hp) (hc:Enc.ok h c) (hz:Lens c):Ct jV 72 [.agg #[.int .i64 c.forecast.tide.mean,c.forecast.tide.parts.val,c.forecast.surges.val,c.chart.points.val,c.chart.segments.val,c.fleet.val,.int .i64 c.regime.gap,.bool c.regime.noMeet,.int .i64 c.crew.tugs,.int .i64 c.crew.pilots,.int .i64 c.crew.rest,c.crew.moves.val]] h fun v h'=>∃ d:DHarbour,v=.agg #[.int .i64 d.forecast.tide.mean,d.forecast.tide.parts.val,d.forecast.surges.val,d.chart.points.val,d.chart.segments.val,d.fleet.val,.int .i64 d.regime.gap,.bool d.regime.noMeet,.int .i64 d.crew.tugs,.int .i64 d.crew.pilots,.int .i64 d.crew.rest,d.crew.moves.val]∧Con.con d=Con.con c∧Enc.ok h' d∧Mine h h' d:=by
 have hc0:=hc
 obtain ⟨o_forecast,⟨o_points,o_segments⟩,o_fleet,o_regime,⟨o1,o2,o3,o_moves⟩⟩:=hc
 refine zdn (fun A W=>by simp) Try.func72 rfl rfl (by simp) fun W0=>?_
 refine Wk ?_
 refine zkj (zEz c.forecast _ o_forecast hz.pa hz.su) rfl ?_
 rintro v h_0 le_0 ⟨s_0,rfl,e_0,ok_0,m_0⟩
 refine Wk ?_
 refine znv rfl ?_
 refine U_t [0,4,1,5,2,6] rfl ?_
 refine Evs ?_
 refine U_1 3 0 [6,5,4] rfl rfl ?_
 refine Evs ?_
 refine zkj (zEv c.chart.points _ (o_points.mono le_0) hz.po) rfl ?_
 rintro v h_1 le_1 ⟨s_1,rfl,e_1,ok_1,m_1⟩
 refine Evs ?_
 refine U_1 7 0 [] rfl rfl ?_
 refine Evs ?_
 refine zkj (zEw c.chart.segments _ (o_segments.mono (Hp.le_trans le_0 le_1)) hz.se) rfl ?_
 rintro v h_2 le_2 ⟨s_2,rfl,e_2,ok_2,m_2⟩
 refine Evs ?_
 refine U_1 8 0 [] rfl rfl ?_
 refine Evs ?_
 refine U_t [9] rfl ?_
 refine Evs ?_
 refine U_1 10 0 [] rfl rfl ?_
 refine Evs ?_
 refine U_d ?_
 refine Wk ?_
 refine zkj (zEx c.fleet _ (o_fleet.mono (Hp.le_trans (Hp.le_trans le_0 le_1) le_2)) hz.fl) rfl ?_
 rintro v h_3 le_3 ⟨s_3,rfl,e_3,ok_3,m_3⟩
 refine Wk ?_
 refine zkj (zx0 c.crew.moves _ (o_moves.mono (Hp.le_trans (Hp.le_trans (Hp.le_trans le_0 le_1) le_2) le_3)) hz.mo) rfl ?_
 rintro v h_4 le_4 ⟨s_4,rfl,e_4,R_4,f_4⟩
 refine Wk ?_
 have ok_4:s_4.Ok h_4:=R_4.ok (by decide) fun x hx=>by rw [e_4] at hx;exact o_moves.2.2.2.1 x hx
 have m_4:Mine h_3 h_4 s_4:=zBe R_4 f_4
 obtain ⟨kk,mm⟩:=zEA hc0 le_0 le_1 le_2 le_3 le_4 ok_0 ok_1 ok_2 ok_3 ok_4 m_0 m_1 m_2 m_3 m_4
 exact ⟨⟨s_0,⟨s_1,s_2⟩,s_3,c.regime,⟨c.crew.tugs,c.crew.pilots,c.crew.rest,s_4⟩⟩,rfl,by rw [zk3,zk3,zkW,zkW,zkE,zkE,e_0];simp only [zkq,e_1,e_2,e_3,zkr,e_4],kk,mm⟩
end Go.Proofs.Ytdeflkhkfmjckaa
