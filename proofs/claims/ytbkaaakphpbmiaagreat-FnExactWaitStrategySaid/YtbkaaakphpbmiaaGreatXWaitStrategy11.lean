/- What functions of the given program compute, as contracts. -/
import Derived.Test.YtbkaaakphpbmiaaGreatSWaitStrategyx3
import Derived.Test.YtbkaaakphpbmiaaGreatXWaitStrategy10
import Derived.Test.YtbkaaakphpbmiaaGreatXWaitStrategy6
import Derived.Test.YtbkaaakphpbmiaaGreatXWaitStrategy7
set_option linter.unusedVariables false
set_option linter.unusedSimpArgs false
set_option maxRecDepth 4000
open Nat renaming reduceAdd → jq, reduceMul → jj, reduceBEq → jy, reduceLeDiff → jv, reduceLT → jk, reduceEqDiff → jx, zero_add → jb, zero_mul → jA, zero_le → jC, sub_zero → qQ, add_zero → qJ, le_refl → qV, not_lt_zero → qE, mul_one → wy, lt_or_ge → wv, le_trans → wK, mul_le_mul_right → wP, eq_zero_or_pos → we, le_antisymm → wE, pow_le_pow_right → wG, lt_of_lt_of_le → yK, add_sub_cancel → uW, add_comm → uV, eq_of_testBit_eq → ue, lt_of_le_of_lt → JK, strongRecOn → JP, min_eq_left → Ja, lt_succ_self → Jc
open Bool renaming or_eq_false_iff → jp, or_eq_true → jQ, and_eq_true → jJ, not_eq_true' → jd, not_eq_false' → jf, true_and → qp, and_false → qP, false_ne_true → qa, and_eq_false_iff → qA, false_or → wa, eq_iff_iff → yq
open Int renaming toNat_natCast → jW, natCast_nonneg → jY, toNat_zero → je, le_refl → qF
open Go.SL.Con renaming con → jK
open Option renaming isSome_some → jX, getD_some → jc, map_some → qq
open List renaming length_append → jP, getD_eq_getElem?_getD → ja, length_singleton → jg, toList_toArray → jE, flatMap_append → jF, length_map → jH, take_succ_eq_append_getElem → qw, take_of_length_le → qy, length_cons → qv, length_nil → qY, size_toArray → qK, getElem?_eq_getElem → qX, getElem_mem → qd, mem_cons_of_mem → qg, map_append → qB, mem_cons_self → qC, take_length → qG, getElem_map → qH, getElem_of_mem → qL, length_take → ww, map_cons → wx, replicate → wQ, all_eq_true → wY, flatMap_cons → wV, map_congr_left → wb, length_set → wc, range → wg, getElem?_append_left → wF, map_map → yj, mem_append_left → yy, take_append_drop → yk, filter_append → yQ, length_replicate → yV, mem_singleton → ya, mem_append_right → yb, range_succ → yg, getElem?_map → yC, map_nil → yD, length_filter_le → up, length_range → uQ, getElem?_append_right → uJ, mem_map_of_mem → uX, length_drop → ub, filter_cons_of_pos → uc, length → ud, findSome?_eq_none_iff → uf, getElem?_eq_none → uE, take → Jq, ext_getElem → Jj, flatMap_eq_nil_iff → Jv, map_replicate → JV, flatMap_def → Jd
open Go.SL.Hp renaming le_trans → jB, ins_same → qD, le_refl → wW, ins_ne → JJ
open Go.SL.Enc renaming ok → jD, mono → jL, enc → qx, size → wA, one → uD
open Go.SL.Foot renaming foot → qj
open Array renaming length_toList → uA
open Go.Proofs.Tryz renaming prog → jV
namespace Go.Proofs.YtbkaaakphpbmiaaGreat
open Go Go.SL
set_option maxHeartbeats 1000000
section
variable {both:Nat→Nat→Bool}
theorem zI3 {s n m:Nat} (H:zIe both s m) (a:s < 2 ^ n):m≤n:=H.2 n (CovOn.id fun i b=>zIi a b)
def LTab (both:Nat→Nat→Bool) (tg:List Bool) (ls:List Nat) (s:Nat):Prop:=∀ q,q < s→(tg.getD q false=true ↔ Cliq both q)∧zIe both q (ls.getD q 0)
theorem zI4 {set k:Nat} (h:zIV set k) (h0:0 < set):0 < k∧zH1 set (2 ^ (k - 1)) < 2 ^ (k - 1)∧(∀ i,set.testBit i=true ↔ ((zH1 set (2 ^ (k - 1))).testBit i=true∨i=k - 1))∨2 ^ 64≤set:=by
 rcases wv set (2 ^ 64) with a|a
 ·left
  obtain ⟨c,h2⟩:=h
  obtain ⟨d,g⟩:=h2 h0
  have f:set.testBit (k - 1)=true:=by
   have:set / 2 ^ (k - 1)=1:=by
    have e:2 ^ k=2 * 2 ^ (k - 1):=by rw [← Nat.pow_succ',show (k - 1).succ=k by omega]
    rw [Nat.div_eq_iff (Nat.two_pow_pos _)];omega
   rw [Nat.testBit_eq_decide_div_mod_eq,this];rfl
  have b:∀ i,(zH1 set (2 ^ (k - 1))).testBit i=(set.testBit i && !decide (k - 1=i)):=fun i=>by rw [zH2 a,Nat.testBit_two_pow]
  refine ⟨d,?_,fun i=>?_⟩
  ·apply Nat.lt_pow_two_of_testBit
   intro i j
   rw [b]
   by_cases e:k - 1=i
   ·simp [e]
   ·have:set.testBit i=false:=Nat.testBit_lt_two_pow (yK c (wG (by decide) (by omega)))
    rw [this];rfl
  ·rw [b]
   by_cases e:k - 1=i
   ·subst e;simp [f]
   ·have:¬ i=k - 1:=fun h=>e h.symm
    simp [e,this]
 ·exact .inr a
theorem zI5 {a b l:Nat} (h:subN a b) (c:b < 2 ^ l):a ||| 2 ^ l=a+2 ^ l:=by
 have d:a < 2 ^ l:=JK (zHY h) c
 have:=Nat.two_pow_add_eq_or_of_lt d 1
 rw [wy] at this
 rw [Nat.or_comm,← this,uV]
end
theorem zI6 {l:List Bool} {i:Nat} {v:Bool} (a:i < l.length):Jq i (l.map Value.bool) ++ Value.bool v :: List.drop (i+1) (l.map Value.bool)=(l.set i v).map Value.bool:=by
 rw [zEb (by rw [jH];exact a),List.map_set]
theorem zI7 {l:List Bool} {i:Nat} (a:i < l.length):(l.map Value.bool).getD i undef=Value.bool (l.getD i false):=by simp [ja,a]
def nv (u:Nat):Value:=Value.int .i64 (u:Nat)
theorem zI8 {l:List Nat} {i v:Nat} (b:i < l.length):Jq i (l.map nv) ++ Value.int .i64 (v:Nat) :: List.drop (i+1) (l.map nv)=(l.set i v).map nv:=by
 have:=zEb (l:=l.map nv) (i:=i) (a:=nv v) (by rw [jH];exact b)
 rw [← List.map_set] at this
 exact this
theorem zI9 {l:List Nat} {i:Nat} (a:i < l.length):(l.map nv).getD i undef=Value.int .i64 (l.getD i 0:Nat):=by simp [ja,a,nv]
theorem zJa {α:Type} {l:List α} {i j:Nat} {v d:α}:(l.set i v).getD j d=if i=j∧j < l.length then v else l.getD j d:=by
 simp only [ja,List.getElem?_set]
 by_cases h:i=j
 ·subst h
  by_cases h2:i < l.length
  ·simp [h2]
  ·simp [h2]
 ·simp [h]
theorem zJb (both:Nat→Nat→Bool) (a:Sl U64) (h:Hp) (ha:a.Ok h) (hn:a.l.length≤12) (hs:∀ i (O:i < a.l.length) k,(a.l[i].n).testBit k=(decide (k < a.l.length) && (decide (i ≠ k) && both i k))):Ct jV 309 [a.val] h fun v h'=>(∃ m:Nat,v=.int .i64 m∧zIe both (2 ^ a.l.length - 1) m)∧h'=h:=by
 have hN:2 ^ a.l.length≤2 ^ 12:=wG (by decide) hn
 have bf:0 < 2 ^ a.l.length:=Nat.two_pow_pos _
 have av:=zIN (j:=a.l.length) (by omega)
 refine Ct.forget ?_
 refine zdn (fun A W=>by simp) Tryz.func309 rfl rfl (by simp) fun W0=>?_
 repeat' first|refine Wa ?_|(simp only [go_sem,jq,jj,jy,jv,jk,jx,av];try rfl)|refine Wb ?_|fail
 refine ⟨by simp only [maxLen];omega,by omega,?_⟩
 refine Wk ?_
 refine ⟨by simp only [maxLen];omega,by omega,?_⟩
 have z0:(0:Int) < ((2 ^ a.l.length:Nat):Int):=by omega
 repeat' first|refine Wa ?_|(simp only [go_sem,jq,jj,jy,jv,jk,jx,z0,zj5,je,jA];try rfl)|refine Wb ?_|fail
 refine ⟨qF _,by rw [yV];omega,?_⟩
 refine Wk ?_
 refine zng (ι:=Nat × List Bool × List Nat) (fun i=>⟨[(0,true,.c (.v a.val)),(3,true,.c (.v (.int .i64 (2 ^ a.l.length:Nat)))),(4,true,.c (.s 0)),(5,true,.c (.s 1)),(6,true,.c (.v (.int .i64 i.1)))],[(0,.row 4 1 (2 ^ a.l.length) (i.2.1.map Value.bool)),(1,.row 3 1 (2 ^ a.l.length) (i.2.2.map nv))],h,2⟩) (fun i=>0 < i.1∧i.1≤2 ^ a.l.length∧i.2.1.length=2 ^ a.l.length∧i.2.2.length=2 ^ a.l.length∧LTab both i.2.1 i.2.2 i.1) (fun i=>2 ^ a.l.length - i.1) (1,(wQ (2 ^ a.l.length) false).set 0 true,wQ (2 ^ a.l.length) 0) ⟨Nat.zero_lt_one,by simp only;omega,by simp,by simp,?_⟩ [0,1] ?_ ?_
 ·intro q p
  obtain rfl:q=0:=by simp only at p;omega
  rw [zJa,if_pos ⟨rfl,by rw [yV];omega⟩]
  refine ⟨⟨fun _ i k O=>by simp at O,fun _=>rfl⟩,?_⟩
  have:(wQ (2 ^ a.l.length) 0).getD 0 0=0:=by rw [ja,List.getElem?_replicate,if_pos bf];rfl
  simp only [this];exact zIf
 ·have e0:Value.bool true :: List.drop 1 (wQ (2 ^ a.l.length) (Value.bool false))=List.map Value.bool ((wQ (2 ^ a.l.length) false).set 0 true):=by
   have:=zI6 (l:=wQ (2 ^ a.l.length) false) (i:=0) (v:=true) (by rw [yV];omega)
   rw [JV] at this
   exact this
  have e1:wQ (2 ^ a.l.length) (Value.int .i64 0)=List.map nv (wQ (2 ^ a.l.length) 0):=by rw [JV];rfl
  refine Evs ?_
  rw [e0,e1]
  exact Gk
 rintro ⟨set,K,d⟩ ⟨ah,aw,t,g,f⟩
 simp only at ah aw t g f
 refine Wk ?_
 refine zc9 rfl (fun hd=>?_) (fun hd=>?_)
 ·have o:=zjH hd
  have bg:IntKind.u64.wrap (set:Int)=(set:Int):=zH8 (by omega)
  have F:(set:Int) < ((2 ^ a.l.length:Nat):Int):=by omega
  repeat' first|refine Wa ?_|(simp only [go_sem,jq,jj,jy,jv,jk,jx,bg];try rfl)|refine Wb ?_|fail
  refine zkr (zI2 set _ (by omega)) rfl ?_
  rintro v h1 b8 ⟨⟨k,rfl,hk⟩,e1⟩
  subst h1
  rcases zI4 hk ah with ⟨b9,u,z⟩|bz
  case inr=>omega
  have bh:=(hk.2 ah).2
  obtain ⟨l,rfl⟩:∃ l,k=l+1:=⟨k - 1,by omega⟩
  simp only [uW] at u z bh
  have Q:l < a.l.length:=by
   rcases wv l a.l.length with h|h
   ·exact h
   ·have:=wG (show 0 < 2 by decide) h;omega
  have ax:(l:Int) < a.l.length:=by omega
  have an:IntKind.i64.wrap (((l+1:Nat):Int) - 1)=(l:Int):=by rw [zjz (by omega)];omega
  have ao:=zIN (j:=l) (by omega)
  have ai:zaE .andNot .i64 (set:Int) ((2 ^ l:Nat):Int)=((zH1 set (2 ^ l):Nat):Int):=zIc (by omega)
  generalize hR:zH1 set (2 ^ l)=rest at u z ai
  have bi:set=rest ||| 2 ^ l:=by
   apply ue
   intro i
   rw [zIh,yq,z i,jQ,JD]
   exact or_congr_right ⟨fun h=>h.symm,fun h=>h.symm⟩
  have b7:=zI5 (a:=rest) (fun _ h=>h) u
  have bj:rest < set:=by omega
  have bk:(rest:Int) < ((2 ^ a.l.length:Nat):Int):=by omega
  have ap:rest < 2 ^ a.l.length:=by omega
  have bl:=zI7 (l:=K) (i:=rest) (by omega)
  have bm:rest < (K.map Value.bool).length:=by rw [jH,t];exact ap
  have bn:IntKind.u64.wrap (rest:Int)=(rest:Int):=zH8 (by omega)
  have bp:zaE .andNot .u64 (rest:Int) ((a.l[l].n:Nat):Int)=((zH1 rest a.l[l].n:Nat):Int):=zId (by omega)
  obtain ⟨M,aj⟩:∃ M,M=(K.getD rest false && (((zH1 rest a.l[l].n:Nat):Int) == 0)):=⟨_,rfl⟩
  have ak:M=true ↔ Cliq both set:=by
   rw [aj,jJ,(f rest bj).1,bi,zIn (q:=rest) (rest:=rest) (fun _ h=>h) u]
   refine and_congr_right fun _=>?_
   rw [beq_iff_eq,show (((zH1 rest a.l[l].n:Nat):Int)=0 ↔ zH1 rest a.l[l].n=0) from by omega,zH5 (by omega)]
   constructor
   ·intro hh q p
    have:=hh q p
    rw [hs l Q q] at this
    simp only [jJ] at this
    exact this.2.2
   ·intro hh q p
    have ca:=zIi u p
    rw [hs l Q q,hh q p,JG (by omega),JG (by omega)];rfl
  repeat' first|refine Wa ?_|(simp only [go_sem,jq,jj,jy,jv,jk,jx,an,ao,ai];try rfl)|refine Wb ?_|fail
  have aq:=zEa ha Q
  simp only [wy] at aq
  repeat' first|refine Wa ?_|(simp only [go_sem,jq,jj,jy,jv,jk,jx,an,bk,ap,bl,bm,bn,bp,aq,ha.some Q,Q,ax,o,F,jY,jW,wy,Jg,JA,JB,JC];try rfl)|refine Wb ?_|fail
  refine ⟨by rw [jH];omega,?_⟩
  rw [← aj,zI6 (by omega)]
  refine Wk ?_
  refine ⟨by rw [jH];omega,?_⟩
  rw [zI8 (by omega)]
  refine Wk ?_
  refine zng (ι:=Nat × Nat) (fun i=>⟨[(0,true,.c (.v a.val)),(3,true,.c (.v (.int .i64 (2 ^ a.l.length:Nat)))),(4,true,.c (.s 0)),(5,true,.c (.s 1)),(6,true,.c (.v (.int .i64 set))),(7,true,.c (.v (.int .i64 l))),(8,true,.c (.v (.int .i64 rest))),(9,true,.c (.v (.int .i64 i.1)))],[(0,.row 4 1 (2 ^ a.l.length) ((K.set set M).map Value.bool)),(1,.row 3 1 (2 ^ a.l.length) ((d.set set i.2).map nv))],h,2⟩) (fun i=>subN i.1 rest∧zIg both (fun q=>d.getD q 0) a.l.length set rest l i.2 i.1) (fun i=>i.1) (rest,a.l.length) ⟨fun _ h=>h,zIj o⟩ [0,1] ?_ ?_
  ·refine Evs ?_
   simp only [wy]
   exact Gk
  rintro ⟨b,cur⟩ ⟨J,D⟩
  simp only at J D
  have cb:b≤rest:=zHY J
  have cd:b ||| 2 ^ l=b+2 ^ l:=zI5 J u
  have ce:b ||| 2 ^ l≤set:=by omega
  have cf:=D.2.1
  have bq:zaE .or .i64 (b:Int) ((2 ^ l:Nat):Int)=((b ||| 2 ^ l:Nat):Int):=zIa (by omega) (by omega)
  have br:((b ||| 2 ^ l:Nat):Int) < ((2 ^ a.l.length:Nat):Int):=by omega
  have bt:b ||| 2 ^ l < 2 ^ a.l.length:=by omega
  have bu:=zI7 (l:=K.set set M) (i:=b ||| 2 ^ l) (by rw [wc,t];omega)
  have az:b ||| 2 ^ l < ((K.set set M).map Value.bool).length:=by rw [jH,wc,t];omega
  have au:(K.set set M).getD (b ||| 2 ^ l) false=true ↔ Cliq both (b ||| 2 ^ l):=by
   rw [zJa,t]
   by_cases e:set=b ||| 2 ^ l
   ·rw [if_pos ⟨e,by omega⟩,← e];exact ak
   ·rw [if_neg (fun h=>e h.1)];exact (f _ (by omega)).1
  repeat' first|refine Wa ?_|(simp only [go_sem,jq,jj,jy,jv,jk,jx,ao,bq,br,bt,bu,az,jY,jW,wy];try rfl)|refine Wb ?_|fail
  refine zc9 rfl (fun hx=>?_) (fun hx=>?_)
  ·have w:=au.1 hx
   have hd:zH1 rest b≤rest:=zH4 (by omega)
   have Z:zaE .andNot .i64 (rest:Int) (b:Int)=((zH1 rest b:Nat):Int):=zIc (by omega)
   have cg:=zI3 (f (zH1 rest b) (by omega)).2 (n:=a.l.length) (by omega)
   have R:=zI9 (l:=d.set set cur) (i:=set) (by rw [wc,g];omega)
   rw [zJa,if_pos ⟨rfl,by omega⟩] at R
   have X:=zI9 (l:=d.set set cur) (i:=zH1 rest b) (by rw [wc,g];omega)
   rw [zJa,if_neg (fun h=>by omega)] at X
   have aa:set < ((d.set set cur).map nv).length:=by rw [jH,wc,g];omega
   have ab:zH1 rest b < ((d.set set cur).map nv).length:=by rw [jH,wc,g];omega
   have ac:zH1 rest b < 2 ^ a.l.length:=by omega
   have ae:((zH1 rest b:Nat):Int) < ((2 ^ a.l.length:Nat):Int):=by omega
   have ag:IntKind.i64.wrap (1+((d.getD (zH1 rest b) 0:Nat):Int))=((1+d.getD (zH1 rest b) 0:Nat):Int):=by rw [zjz (by omega)];omega
   have N:min (cur:Int) ((1+d.getD (zH1 rest b) 0:Nat):Int)=((min cur (1+d.getD (zH1 rest b) 0):Nat):Int):=by omega
   have al:=zI8 (l:=d.set set cur) (i:=set) (v:=min cur (1+d.getD (zH1 rest b) 0)) (by rw [wc,g];omega)
   rw [List.set_set] at al
   have x:=zIk D z u (by omega) J (fun q p=>(f q (by omega)).2) w
   have G:min cur (1+d.getD (zH1 rest b) 0)≤cur:=Nat.min_le_left _ _
   have y:Cliq both (b ||| 2 ^ l)→min cur (1+d.getD (zH1 rest b) 0)≤1+d.getD (zH1 rest b) 0:=fun _=>Nat.min_le_right _ _
   refine Wk ?_
   refine zz5 rfl ?_
   refine U_t [0,1,2,3,6,7,8,4,9,5,10,11,12] rfl ?_
   simp only [go_sem,jq,jj,jy,jv,jk,jx,Z,R,X,aa,ab,ac,ae,ag,N,o,F,jY,jW,wy]
   refine U_1 13 0 [] rfl rfl ?_
   simp only [go_sem,jq,jj,jy,jv,jk,jx,Z,R,X,aa,ab,ac,ae,ag,N,o,F,jY,jW,wy]
   refine U_t [14] rfl ?_
   simp only [go_sem,jq,jj,jy,jv,jk,jx,Z,R,X,aa,ab,ac,ae,ag,N,o,F,jY,jW,wy]
   refine U_1 15 0 [] rfl rfl ?_
   simp only [go_sem,jq,jj,jy,jv,jk,jx,Z,R,X,aa,ab,ac,ae,ag,N,o,F,jY,jW,wy]
   refine ⟨by omega,?_⟩
   refine U_d ?_
   rw [al]
   refine Wk ?_
   refine zc9 rfl (fun r=>?_) (fun r=>?_)
   ·have r:b=0:=by have:=eq_of_beq r;omega
    subst r
    have H:zIe both set (min cur (1+d.getD (zH1 rest 0) 0)):=zIm x (fun q p w=>by
     rcases we q with rfl|h0
     ·exact y w
     ·exact wK G (D.2.2 q p h0 w)) z u (by omega) (fun q p=>(f q (by omega)).2)
    refine Wk ?_
    refine ⟨(set+1,K.set set M,d.set set (min cur (1+d.getD (zH1 rest 0) 0))),[0,1],⟨by omega,by omega,by rw [wc];exact t,by rw [wc];exact g,fun q p=>?_⟩,by simp only;omega,?_⟩
    ·rw [zJa,zJa,t,g]
     by_cases e:set=q
     ·subst e
      rw [if_pos ⟨rfl,o⟩,if_pos ⟨rfl,o⟩]
      exact ⟨ak,H⟩
     ·rw [if_neg (fun h=>e h.1),if_neg (fun h=>e h.1)]
      exact f q (by omega)
    ·refine Evs ?_
     exact Gi (zjA (n:=4096) (k:=set) (by omega) (by omega))
   ·have r:b ≠ 0:=by intro e;rw [e] at r;cases r
    have am:IntKind.i64.wrap ((b:Int) - 1)=((b - 1:Nat):Int):=by rw [zjz (by omega)];omega
    have Y:zaE .and .i64 ((b - 1:Nat):Int) (rest:Int)=(((b - 1) &&& rest:Nat):Int):=zH9 (by omega) (by omega)
    have a7:(b - 1) &&& rest≤b - 1:=Nat.and_le_left
    repeat' first|refine Wa ?_|(simp only [go_sem,jq,jj,jy,jv,jk,jx,am,Y];try rfl)|refine Wb ?_|fail
    refine ⟨((b - 1) &&& rest,(min cur (1+d.getD (zH1 rest b) 0))),[0,1],⟨fun i O=>by rw [Nat.testBit_and,jJ] at O;exact O.2,zIl D J x G y⟩,by simp only;omega,?_⟩
    refine Evs ?_
    exact Gk
  ·have w:¬ Cliq both (b ||| 2 ^ l):=fun h=>by rw [au.2 h] at hx;cases hx
   have x:=D.1
   have G:cur≤cur:=qV _
   have y:Cliq both (b ||| 2 ^ l)→cur≤1+d.getD (zH1 rest b) 0:=fun h=>(w h).elim
   refine Wk ?_
   refine zc9 rfl (fun r=>?_) (fun r=>?_)
   ·have r:b=0:=by have:=eq_of_beq r;omega
    subst r
    have H:zIe both set cur:=zIm x (fun q p w=>by
     rcases we q with rfl|h0
     ·exact y w
     ·exact wK G (D.2.2 q p h0 w)) z u (by omega) (fun q p=>(f q (by omega)).2)
    refine Wk ?_
    refine ⟨(set+1,K.set set M,d.set set cur),[0,1],⟨by omega,by omega,by rw [wc];exact t,by rw [wc];exact g,fun q p=>?_⟩,by simp only;omega,?_⟩
    ·rw [zJa,zJa,t,g]
     by_cases e:set=q
     ·subst e
      rw [if_pos ⟨rfl,o⟩,if_pos ⟨rfl,o⟩]
      exact ⟨ak,H⟩
     ·rw [if_neg (fun h=>e h.1),if_neg (fun h=>e h.1)]
      exact f q (by omega)
    ·refine Evs ?_
     exact Gi (zjA (n:=4096) (k:=set) (by omega) (by omega))
   ·have r:b ≠ 0:=by intro e;rw [e] at r;cases r
    have am:IntKind.i64.wrap ((b:Int) - 1)=((b - 1:Nat):Int):=by rw [zjz (by omega)];omega
    have Y:zaE .and .i64 ((b - 1:Nat):Int) (rest:Int)=(((b - 1) &&& rest:Nat):Int):=zH9 (by omega) (by omega)
    have a7:(b - 1) &&& rest≤b - 1:=Nat.and_le_left
    repeat' first|refine Wa ?_|(simp only [go_sem,jq,jj,jy,jv,jk,jx,am,Y];try rfl)|refine Wb ?_|fail
    refine ⟨((b - 1) &&& rest,cur),[0,1],⟨fun i O=>by rw [Nat.testBit_and,jJ] at O;exact O.2,zIl D J x G y⟩,by simp only;omega,?_⟩
    refine Evs ?_
    exact Gk
 ·have ci:=zjI hd
  have cj:set=2 ^ a.l.length:=by omega
  have bv:IntKind.i64.wrap (((2 ^ a.l.length:Nat):Int) - 1)=((2 ^ a.l.length - 1:Nat):Int):=by rw [zjz (by omega)];omega
  have bw:=zI9 (l:=d) (i:=2 ^ a.l.length - 1) (by omega)
  have a8:2 ^ a.l.length - 1 < (d.map nv).length:=by rw [jH,g];omega
  have bd:((2 ^ a.l.length - 1:Nat):Int) < ((2 ^ a.l.length:Nat):Int):=by omega
  repeat' first|refine Wa ?_|(simp only [go_sem,jq,jj,jy,jv,jk,jx,bv,bw,a8,bd,jY,jW,wy];try rfl)|refine Wb ?_|fail
  exact ⟨_,rfl,(f _ (by omega)).2⟩
theorem zJc {α β:Type} {g:Nat→Option β} {n:Nat} {w:β} (h:∀ c,c < n→g c=none) (a:g n=some w):∀ {M:Nat},n < M→(wg M).findSome? g=some w
 | 0,b=>absurd b (qE _)
 | M+1,b=>by
  rw [yg,List.findSome?_append]
  rcases wv n M with d|d
  ·rw [zJc (α:=α) h a d];rfl
  ·obtain rfl:n=M:=by omega
   rw [List.findSome?_eq_none_iff.2 (fun x e=>h x (List.mem_range.1 e))]
   simp [a]
def zs (l:List Nat):List Int:=l.map fun (k:Nat)=>(k:Int)
theorem zJd {l:List Nat}:(zs l).length=l.length:=jH ..
theorem zJe {l:List Nat} {k:Nat} (h:k < (zs l).length):(zs l)[k]=(l.getD k 0:Nat):=by
 have:k < l.length:=by rw [← zJd];exact h
 simp [zs,ja,this]
theorem zJf {l:List Nat} {k:Nat} (h:k < l.length):zEs (l.take (k+1))=max (zEs (l.take k)) (l.getD k 0+1):=by
 rw [qw h,zEu];simp [ja,h]
theorem zJg {l:List Nat} {m:Nat} (h:∀ x ∈ l,x < m):zEs l≤m:=by
 induction l with
 | nil=>exact jC _
 | cons a l b =>
  have:=h a (qC ..)
  have:=b fun x c=>h x (qg _ c)
  unfold zEs;omega
def fitK (both:Nat→Nat→Bool) (who:List Nat) (c k:Nat):Bool:=decide (∀ j,j < k→who.getD j 0=c→both who.length j=true)
theorem zJh {both:Nat→Nat→Bool} {who:List Nat} {c k:Nat} (h:who.getD k 0=c) (a:both who.length k=false):fitK both who c (k+1)=false:=decide_eq_false fun H=>by rw [H k (Jc k) h] at a;cases a
theorem zJi {both:Nat→Nat→Bool} {who:List Nat} {c k:Nat} (h:who.getD k 0=c→both who.length k=true):fitK both who c (k+1)=fitK both who c k:=by
 unfold fitK
 rw [decide_eq_decide]
 refine ⟨fun H j b=>H j (by omega),fun H j b e=>?_⟩
 rcases wv j k with a|a
 ·exact H j a e
 ·obtain rfl:j=k:=by omega
  exact h e
theorem zJj {both:Nat→Nat→Bool} {who:List Nat} {c:Nat}:fitK both who c 0=true:=JG fun j a=>absurd a (qE _)
def srGo (both:Nat→Nat→Bool) (most f:Nat) (who:List Nat) (c:Nat):Option (List Nat):=if zEr both who c=true then zEt both most f (who ++ [c]) else none
def zJk (r:Option (List Nat)) (who:Sl Int) (h:Hp) (v:Value) (h':Hp):Prop:=match r with
 | none=>v=.tuple #[.slice none 0 0,.bool false]
 | some w=>∃ s:Sl Int,v=.tuple #[s.val,.bool true]∧s.l=zs w∧s.Ok h'∧(Mine h h' s∨s=who)
theorem zJl (both:Nat→Nat→Bool) (d:Sl (Sl Bool)) (n:Nat) (al:d.l.length=n) (R:∀ i (hi:i < d.l.length),d.l[i].l.length=n∧∀ k (K:k < d.l[i].l.length),k < i→d.l[i].l[k]=both i k) (ag:n≤12) (most:Nat) (hm:most≤12) :
  ∀ (f:Nat) (who:Sl Int) (a:List Nat) (h:Hp),d.Ok h→who.Ok h→who.l=zs a→a.length+f=n→(∀ x ∈ a,x < 12) →
   Ct jV 304 [d.val,who.val,.int .i64 most] h fun v h'=>zJk (zEt both most f a) who h v h'
 | 0,who,a,h,ae,q,z,ah,r=>by
  have X:who.l.length=a.length:=by rw [z,zJd]
  have e1:who.l.length=d.l.length:=by omega
  refine zdn (fun A W=>by simp) Tryz.func304 rfl rfl (by simp) fun W0=>?_
  repeat' first|refine Wa ?_|(simp only [go_sem,jq,jj,jy,jv,jk,jx,e1];try rfl)|refine Wb ?_|fail
  refine zc9 rfl (fun Y=>?_) (fun Y=>?_)
  ·refine Wk ?_
   exact ⟨who,rfl,z,q,.inr rfl⟩
  ·simp at Y
 | f+1,who,a,h,ae,q,z,ah,r=>by
  have X:who.l.length=a.length:=by rw [z,zJd]
  have e1:¬ who.l.length=d.l.length:=by omega
  have bg:=zJg r
  have Z:∀ k (K:k < who.l.length),who.l[k]=((a.getD k 0:Nat):Int):=fun k K=>by simp only [z];exact zJe _
  have am:∀ k,k < a.length→a.getD k 0 < 12:=fun k K=>by rw [show a.getD k 0=a[k] by simp [ja,K]];exact r _ (qd K)
  refine zdn (fun A W=>by simp) Tryz.func304 rfl rfl (by simp) fun W0=>?_
  refine Wk ?_
  refine zc9 rfl (fun Y=>?_) (fun Y=>?_)
  ·have:=eq_of_beq Y
   omega
  refine Wk ?_
  refine zde (ι:=Nat) (fun k=>⟨[(0,true,.c (.v d.val)),(1,true,.c (.v who.val)),(2,true,.c (.v (.int .i64 most))),(6,true,.c (.v (.slice none 0 0))),(7,true,.c (.v (.bool false))),(8,true,.c (.v (.int .i64 (zEs (a.take k):Nat)))),(23,true,.c (.v who.val)),(24,true,.c (.v (.int .i64 who.l.length))),(25,true,.c (.v (.int .i64 k)))],[],h,0⟩) (fun k=>k≤a.length) (fun k=>a.length - k) 0 (jC _) ?_ ?_
  ·refine Evs ?_
   exact Gk
  intro k K
  refine Wk ?_
  refine zc9 rfl (fun t=>?_) (fun t=>?_)
  ·have j:k < who.l.length:=zjH t
   have b:k < a.length:=by omega
   have g:=am k b
   have an:IntKind.i64.wrap (((a.getD k 0:Nat):Int)+1)=((a.getD k 0+1:Nat):Int):=by rw [zjz (by omega)];omega
   repeat' first|refine Wa ?_|(simp only [go_sem,jq,jj,jy,jv,jk,jx,zkR q j,Z k j,q.some j,j,jW,an];try rfl)|refine Wb ?_|fail
   refine ⟨k+1,b,by omega,?_⟩
   rw [zJf b]
   exact ⟨zjB (by omega),zjB (zjA j (by omega))⟩
  have bi:=zjI t
  have ao:k=a.length:=by omega
  subst ao
  rw [qG]
  refine Wk ?_
  refine zng (ι:=Nat × Hp) (fun i=>⟨[(0,true,.c (.v d.val)),(1,true,.c (.v who.val)),(2,true,.c (.v (.int .i64 most))),(6,true,.c (.v (.slice none 0 0))),(7,true,.c (.v (.bool false))),(8,true,.c (.v (.int .i64 (zEs a:Nat)))),(11,true,.c (.v (.int .i64 i.1)))],[],i.2,0⟩) (fun i=>i.1≤min (zEs a+1) most∧h.le i.2∧∀ c,c < i.1→srGo both most f a c=none) (fun i=>13 - i.1) (0,h) ⟨jC _,wW _,fun c M=>absurd M (qE _)⟩ [] ?_ ?_
  ·refine Evs ?_
   exact Gk
  rintro ⟨c,M⟩ ⟨ap,o,J⟩
  simp only at ap o J
  have F:=ae.mono o
  have G:=q.mono o
  refine Wk ?_
  refine zc9 rfl (fun g=>?_) (fun g=>?_)
  ·rw [jJ] at g
   have bj:=JE g.1
   have bk:=JE g.2
   refine Wk ?_
   refine zde (ι:=Nat) (fun k=>⟨[(0,true,.c (.v d.val)),(1,true,.c (.v who.val)),(2,true,.c (.v (.int .i64 most))),(6,true,.c (.v (.slice none 0 0))),(7,true,.c (.v (.bool false))),(8,true,.c (.v (.int .i64 (zEs a:Nat)))),(11,true,.c (.v (.int .i64 c))),(12,true,.c (.v (.bool (fitK both a c k)))),(44,true,.c (.v who.val)),(45,true,.c (.v (.int .i64 a.length))),(46,true,.c (.v (.int .i64 k)))],[],M,0⟩) (fun k=>k≤a.length) (fun k=>a.length - k) 0 (jC _) ?_ ?_
   ·simp only [go_sem,jq,jj,jy,jv,jk,jx,X]
    exact ⟨by rw [zJj],rfl⟩
   intro k K
   refine Wk ?_
   refine zc9 rfl (fun t=>?_) (fun t=>?_)
   ·have b:k < a.length:=zjH t
    have j:k < who.l.length:=by omega
    have D:a.length < d.l.length:=by omega
    have O:k < d.l[a.length].l.length:=by rw [(R _ D).1];omega
    have aa:d.l[a.length].Ok M:=F.el D
    have ai:(a.length:Int) < d.l.length:=by omega
    have aj:(k:Int) < d.l[a.length].l.length:=by omega
    have aq:d.l[a.length].l[k]=both a.length k:=(R _ D).2 k O b
    repeat' first|refine Wa ?_|(simp only [go_sem,jq,jj,jy,jv,jk,jx,zkR G j,Z k j,G.some j,j,X,b,jW,D,ai,zkQ F D,F.some D,zC1 aa O,aa.some O,O,aj,aq,jY,Jg,JA,JB,JC];try rfl)|refine Wb ?_|fail
    refine zc9 rfl (fun p=>?_) (fun p=>?_)
    ·rw [jJ,jd] at p
     have au:a.getD k 0=c:=by have:=eq_of_beq p.1;omega
     refine Wk ?_
     refine ⟨k+1,b,by omega,?_⟩
     rw [zJh au p.2]
     exact ⟨rfl,zjB (zjA b (by omega))⟩
    ·refine Wk ?_
     refine ⟨k+1,b,by omega,?_⟩
     rw [zJi (fun e=>by
      cases av:both a.length k with
      | true=>rfl
      | false=>rw [av,e] at p;simp at p)]
     exact ⟨rfl,zjB (zjA b (by omega))⟩
   have bh:=zjI t
   obtain rfl:k=a.length:=by omega
   refine Wk ?_
   refine zc9 rfl (fun hf=>?_) (fun hf=>?_)
   ·have Q:zEr both a c=false:=by show fitK both a c a.length=false;simpa using hf
    refine Wk ?_
    refine ⟨(c+1,M),[],⟨by omega,o,fun N aw=>?_⟩,by simp only;omega,?_⟩
    ·rcases wv N c with h1|h1
     ·exact J N h1
     ·obtain rfl:N=c:=by omega
      rw [srGo,if_neg (by rw [Q];exact qa)]
    refine Evs ?_
    exact Gi (zjA (n:=4096) (k:=c) (by omega) (by omega))
   ·have Q:zEr both a c=true:=by show fitK both a c a.length=true;simpa using hf
    refine zc5 ?_
    refine Evs ?_
    refine zzr [0,0,0,0,0,0,2] rfl ?_
    refine Evs ?_
    have ak:M.ldL who.val 1=some (who.l.flatMap qx):=G.all (by decide)
    simp only [ak,jX,jc]
    refine ⟨trivial,fun u hu=>?_,by simp only [maxLen];omega,by omega,by simp only [maxLen];omega,by omega,fun ad cap g1 H=>?_⟩
    ·rw [zEd] at hu
     obtain ⟨y,_,rfl⟩:=List.mem_map.1 hu
     rfl
    have e2:(who.l ++ [(c:Int)]).length=0+who.l.length+1:=by rw [jP,jg];omega
    have e3:(who.l ++ [(c:Int)]).flatMap qx=who.l.flatMap qx ++ [Value.int IntKind.i64 ↑c]:=by rw [jF];rfl
    have e4:who.l ++ [(c:Int)]=zs (a ++ [c]):=by rw [z];simp [zs]
    rw [← e2,← e3] at H
    rw [← e2]
    have hI:∀ x ∈ who.l ++ [(c:Int)],jD M x:=fun x g=>by
     rw [e4] at g
     obtain ⟨y,p,rfl⟩:=List.mem_map.1 g
     have:y < 12:=by
      rcases List.mem_append.1 p with p|p
      ·exact r y p
      ·rw [List.mem_singleton.1 p];omega
     show I64 _;unfold I64;omega
    have k1:(Sl.mk ad cap (who.l ++ [(c:Int)])).Ok g1:=Pub.sl (by decide) H hI
    have m1:=Pub.mine H o hI (Mines.flat (fun _=>rfl) (fun _=>trivial))
    refine zkr (zJl both d n al R ag most hm f (Sl.mk ad cap (who.l ++ [(c:Int)])) (a ++ [c]) g1 (F.mono H.le) k1 e4 (by rw [jP,jg];omega) (fun x g=>by
      rcases List.mem_append.1 g with g|g
      ·exact r x g
      ·rw [List.mem_singleton.1 g];omega)) rfl ?_
    rintro v g2 ab m
    cases hr:zEt both most f (a ++ [c]) with
    | none =>
     rw [hr] at m
     have m:v=.tuple #[.slice none 0 0,.bool false]:=m
     subst m
     refine Evs ?_
     refine Wk ?_
     refine zc9 rfl (fun hq=>?_) (fun hq=>?_)
     ·cases hq
     refine Wk ?_
     refine ⟨(c+1,g2),[],⟨by omega,jB o (jB H.le ab),fun N aw=>?_⟩,by simp only;omega,?_⟩
     ·rcases wv N c with h1|h1
      ·exact J N h1
      ·obtain rfl:N=c:=by omega
       rw [srGo,if_pos Q];exact hr
     refine Evs ?_
     refine ⟨zjB (zjA (n:=4096) (k:=c) (by omega) (by omega)),jB o (jB H.le ab),?_⟩
     exact Gk
    | some w =>
     rw [hr] at m
     obtain ⟨s,rfl,ax,az,a7⟩:=m
     refine Evs ?_
     refine Wk ?_
     refine zc9 rfl (fun hq=>?_) (fun hq=>?_)
     case refine_2=>cases hq
     refine Wk ?_
     have a8:srGo both most f a c=some w:=by rw [srGo,if_pos Q];exact hr
     have bd:zEt both most (f+1) a=some w:=by
      unfold zEt
      exact zJc (α:=Nat) J a8 (by omega)
     rw [bd]
     refine ⟨s,rfl,ax,az,.inl ?_⟩
     rcases a7 with h3|rfl
     ·exact h3.back (jB o H.le)
     ·exact m1.on ab k1
  ·have bf:c=min (zEs a+1) most:=by
    rw [qA,JH,JH] at g
    omega
   have ac:zEt both most (f+1) a=none:=by
    unfold zEt
    rw [uf]
    exact fun x g=>J x (by rw [bf];exact List.mem_range.1 g)
   rw [ac]
   exact Wk0
def grpM (wn:List Nat) (p:Nat):Nat:=zIo (fun j=>decide (wn.getD j 0=p)) wn.length
def grpL (n:Nat) (wn:List Nat):List U64:=(wg n).map fun p=>⟨grpM wn p⟩
theorem zJm {n:Nat} {a:List Nat}:(grpL n a).length=n:=by rw [grpL,jH,uQ]
theorem zJn {n p:Nat} {a:List Nat} (h:p < (grpL n a).length):(grpL n a)[p]=⟨grpM a p⟩:=by simp [grpL]
theorem zJo {a:List Nat} {p i:Nat}:(grpM a p).testBit i=true ↔ (i < a.length∧a.getD i 0=p):=by rw [grpM,zIp,jJ,JD,JD]
theorem zJp {a:List Nat} {p:Nat}:grpM a p < 2 ^ a.length:=zIq
theorem zJq {a:List Nat} {p:Nat} (h:zEs a≤p):grpM a p=0:=by
 apply ue
 intro i
 rw [Nat.zero_testBit,← Bool.not_eq_true,zJo]
 rintro ⟨b,h2⟩
 have:a.getD i 0 ∈ a:=by simp [ja,b]
 have:=zEv this
 omega
theorem zJr {a:List Nat} {p:Nat} (h:p ∈ a):grpM a p ≠ 0:=by
 obtain ⟨i,b,rfl⟩:=qL h
 intro e
 have:(grpM a a[i]).testBit i=true:=zJo.2 ⟨b,by simp [ja,b]⟩
 rw [e,Nat.zero_testBit] at this;cases this
theorem zJs {a:List Nat} {p i:Nat}:(a ++ [p]).getD i 0=if i < a.length then a.getD i 0 else if i=a.length then p else 0:=by
 simp only [ja]
 by_cases h:i < a.length
 ·rw [wF h,if_pos h]
 ·rw [uJ (by omega),if_neg h]
  by_cases h2:i=a.length
  ·subst h2;simp
  ·rw [if_neg h2,uE (by simp;omega)];rfl
theorem zJt {a:List Nat} {p q:Nat}:grpM (a ++ [p]) q=if q=p then grpM a q ||| 2 ^ a.length else grpM a q:=by
 apply ue
 intro i
 rw [yq,zJo,zJs,jP,jg]
 by_cases e:q=p
 ·rw [if_pos e,zIh,jQ,zJo,JD]
  by_cases h:i < a.length
  ·rw [if_pos h];omega
  ·rw [if_neg h]
   by_cases h2:i=a.length
   ·rw [if_pos h2];omega
   ·rw [if_neg h2];omega
 ·rw [if_neg e,zJo]
  by_cases h:i < a.length
  ·rw [if_pos h];omega
  ·rw [if_neg h]
   by_cases h2:i=a.length
   ·rw [if_pos h2];omega
   ·rw [if_neg h2];omega
theorem zJu {n p:Nat} {a:List Nat} (b:p < n):(grpL n a).set p ⟨grpM a p ||| 2 ^ a.length⟩=grpL n (a ++ [p]):=by
 apply Jj
 ·rw [wc,zJm,zJm]
 ·intro q c h2
  rw [List.getElem_set,zJn,zJn,zJt]
  by_cases e:p=q
  ·subst e;rw [if_pos rfl,if_pos rfl]
  ·rw [if_neg e,if_neg (fun h=>e h.symm)]
theorem zJv {a:List Nat} {p:Nat} (h:a.length < 62):zH1 (grpM (a ++ [p]) p) (2 ^ a.length)=grpM a p:=by
 have b:grpM (a ++ [p]) p < 2 ^ 64:=yK zJp (wG (by decide) (by rw [jP,jg];omega))
 apply ue
 intro i
 rw [zH2 b,Nat.testBit_two_pow,yq,jJ,zJt,if_pos rfl,zIh,jQ,zJo,JD,jd,JH]
 omega
theorem zJw {n p:Nat} {a:List Nat} (b:p < n):(grpL n (a ++ [p])).set p ⟨grpM a p⟩=grpL n a:=by
 apply Jj
 ·rw [wc,zJm,zJm]
 ·intro q c h2
  rw [List.getElem_set,zJn,zJn,zJt]
  by_cases e:p=q
  ·subst e;rw [if_pos rfl]
  ·rw [if_neg e,if_neg (fun h=>e h.symm)]
theorem zJx {n p:Nat} {a:List Nat} (b:p≤n):(grpL n a).take p=grpL p a:=by
 rw [grpL,← List.map_take,List.take_range,Ja b];rfl
theorem zJy {n:Nat} {a:List Nat} (h:zEs a≤n):grpL n a ++ [⟨0⟩]=grpL (n+1) a:=by
 rw [grpL,grpL,yg,qB,wx,yD,zJq h]
theorem zJz {both:Nat→Nat→Bool} {a:List Nat} {p n s:Nat} (h:a.length < n) (g:n≤12) (c:∀ k,s.testBit k=(decide (k < n) && (decide (a.length ≠ k) && both a.length k))):zH1 (grpM a p) s=0 ↔ zEr both a p=true:=by
 have d:grpM a p < 2 ^ 64:=yK zJp (wG (by decide) (by omega))
 rw [zH5 d,zEr,JD]
 constructor
 ·intro H k b e
  have:=H k (zJo.2 ⟨b,e⟩)
  rw [c k] at this
  simp only [jJ] at this
  exact this.2.2
 ·intro H k b
  obtain ⟨f,h2⟩:=zJo.1 b
  rw [c k,H k f h2,JG (by omega),JG (by omega)];rfl
theorem zJA {e:TypeId} {h:Hp} {s:Sl U64} {i:Nat} {u:U64} (H:RowAt e h s) (f:i < s.l.length) :
  ∃ g cur,s.a=some ⟨g,0,none⟩∧h g=some (.cells cur e (0,0))∧i+1≤cur.size∧RowAt e (h.ins g (.cells (spl i [.int .u64 u.n] cur.toList).toArray e (0,0))) ⟨s.a,s.cap,s.l.set i u⟩:=by
 obtain ⟨o,h2,⟨d,j,p⟩|⟨g,cur,d,hb,k,b⟩⟩:=H
 ·rw [j] at f;cases f
 ·have c:wA U64=1:=rfl
  rw [c,wy] at k b
  refine ⟨g,cur,d,hb,by omega,by rw [wc];exact o,h2,.inr ⟨g,_,d,qD,?_,?_⟩⟩
  ·have j:cur.toList.length=cur.size:=uA
   simp only [spl,zbG,qK,jP,ww,ub,qv,qY,c]
   omega
  ·rw [wc,c,wy,zEc,List.map_set]
   rw [zEc] at b
   have m:spl i [Value.int .u64 u.n] cur.toList=cur.toList.set i (.int .u64 u.n):=by
    unfold spl zbG
    exact zEb (by rw [uA];omega)
   rw [m,List.take_set,b]
theorem zJB {α:Type} [Enc α] {e:TypeId} {h:Hp} {s:Sl α} {k:Nat} (H:RowAt e h s) (a:k≤s.l.length):RowAt e h (s.to k):=by
 obtain ⟨m,h2,⟨c,i,j⟩|⟨g,cur,c,hb,d,f⟩⟩:=H
 ·refine ⟨by rw [Sl.to_len a];show k≤s.cap;omega,h2,.inl ⟨c,?_,j⟩⟩
  show s.l.take k=[];rw [i,List.take_nil]
 ·refine ⟨by rw [Sl.to_len a];show k≤s.cap;omega,h2,.inr ⟨g,cur,c,hb,d,?_⟩⟩
  rw [Sl.to_len a]
  have:(s.to k).l.flatMap qx=(s.l.flatMap qx).take (k * wA α):=by
   show (s.l.take k).flatMap qx=_
   have b:((s.l.take k).flatMap qx).length=k * wA α:=by rw [ziq Enc.len,ww,Ja a]
   have e:=congrArg (List.flatMap qx) (yk k s.l)
   rw [jF] at e
   rw [← e,List.take_append_of_le_length (by rw [b];exact qV _)]
   exact (qy (by rw [b];exact qV _)).symm
  rw [this,← f,List.take_take,Ja (wP _ a)]
theorem zJC {α:Type} [Enc α] {e:TypeId} {h h2:Hp} {s:Sl α} {l:List α} {b:Option Addr} {cap:Nat} (R:RowAt e h s) (H:Pub (zD4 h s) e (wA α) l.length (l.flatMap qx) b cap h2) :
  RowAt e h2 (Sl.mk b cap l)∧(∀ g,b=some ⟨g,0,none⟩→h g=none∨s.a=some ⟨g,0,none⟩)∧∀ k,(∀ g,b=some ⟨g,0,none⟩→k ≠ g)→(∀ g,s.a=some ⟨g,0,none⟩→k ≠ g)→h2 k=h k:=by
 obtain ⟨o,p,q⟩:=H.row
 have r:=R.addr
 have c:∀ k,(∀ g,s.a=some ⟨g,0,none⟩→k ≠ g)→zD4 h s k=h k:=fun k t=>zD8 fun a d e=>by
  obtain ⟨f,i⟩:=r a d
  have:a=⟨a.block,0,none⟩:=by cases a;simp only at f i;subst f i;rfl
  exact t a.block (by rw [← this];exact d) e
 refine ⟨o,fun g u=>?_,fun k j m=>by rw [q k j,c k m]⟩
 by_cases e:s.a=some ⟨g,0,none⟩
 ·exact .inr e
 ·left
  rw [← c g (fun x n w=>by subst w;exact e n)]
  exact p g u
def CV (hb h:Hp) (b:Nat) (sets:Sl U64) (most:Nat) (gs:Sl U64) (who:Sl Int):Prop :=
 (hb.le h∧sets.Ok hb∧hb b=none∧h b=some (.cells #[sets.val,.int .i64 most,gs.val,who.val] 350 (0,0)))∧(RowAt 356 h gs∧∀ g,gs.a=some ⟨g,0,none⟩→hb g=none∧g ≠ b)∧(RowAt 3 h who∧∀ g,who.a=some ⟨g,0,none⟩→hb g=none∧g ≠ b)∧∀ g,gs.a=some ⟨g,0,none⟩→who.a ≠ some ⟨g,0,none⟩
theorem zJD {α:Type} [Enc α] {e:TypeId} {h:Hp} {s:Sl α} (H:RowAt e h s) {g:Nat} (b:s.a=some ⟨g,0,none⟩):h g ≠ none:=by
 obtain ⟨i,h2,⟨c,j,k⟩|⟨l,cur,c,hb,d,f⟩⟩:=H
 ·rw [c] at b;cases b
 ·rw [c] at b;cases b;rw [hb];exact fun e=>by cases e
section
variable {hb h h2:Hp} {b most:Nat} {sets gs:Sl U64} {who:Sl Int}
theorem CV.mk2 {d:Sl U64} {c:Sl Int} (H:CV hb h b sets most gs who) (j:hb.le h2) (p:RowAt 356 h2 d) (l:∀ g,d.a=some ⟨g,0,none⟩→hb g=none∧g ≠ b) (q:RowAt 3 h2 c) (m:∀ g,c.a=some ⟨g,0,none⟩→hb g=none∧g ≠ b)
  (D:∀ g,d.a=some ⟨g,0,none⟩→c.a ≠ some ⟨g,0,none⟩):CV hb (h2.ins b (.cells #[sets.val,.int .i64 most,d.val,c.val] 350 (0,0))) b sets most d c:=by
 obtain ⟨⟨_,r,n,_⟩,_⟩:=H
 refine ⟨⟨fun k o f=>?_,r,n,qD⟩,⟨p.keep fun g i=>JJ (l g i).2,l⟩,⟨q.keep fun g i=>JJ (m g i).2,m⟩,D⟩
 rw [JJ (fun e=>by subst e;rw [n] at f;cases f)]
 exact j k o f
theorem CV.pubg {l:List U64} {f:Option Addr} {cap:Nat} (H:CV hb h b sets most gs who) (P:Pub (zD4 h gs) 356 (wA U64) l.length (l.flatMap qx) f cap h2) :
  h2 b=some (.cells #[sets.val,.int .i64 most,gs.val,who.val] 350 (0,0))∧CV hb (h2.ins b (.cells #[sets.val,.int .i64 most,(Sl.mk f cap l).val,who.val] 350 (0,0))) b sets most (Sl.mk f cap l) who∧∀ g,f=some ⟨g,0,none⟩→h g=none∨gs.a=some ⟨g,0,none⟩:=by
 obtain ⟨⟨p,D,F,q⟩,⟨s,m⟩,⟨r2,t⟩,d⟩:=id H
 obtain ⟨u,r,n⟩:=zJC s P
 have fr:∀ g,f=some ⟨g,0,none⟩→hb g=none∧g ≠ b∧who.a ≠ some ⟨g,0,none⟩:=fun g c=>by
  rcases r g c with x|x
  ·refine ⟨?_,fun e=>(by subst e;rw [q] at x;cases x),fun e=>zJD r2 e x⟩
   cases w:hb g with
   | none=>rfl
   | some o=>rw [p g o w] at x;cases x
  ·exact ⟨(m g x).1,(m g x).2,d g x⟩
 have y:h2 b=h b:=n b (fun g c e=>(fr g c).2.1 e.symm) fun g c e=>(m g c).2 e.symm
 refine ⟨by rw [y];exact q,CV.mk2 H (fun k o i=>?_) u (fun g c=>⟨(fr g c).1,(fr g c).2.1⟩) (r2.keep fun g c=>?_) t (fun g c=>(fr g c).2.2),r⟩
 ·rw [n k (fun g c e=>by subst e;rw [(fr _ c).1] at i;cases i) (fun g c e=>by subst e;rw [(m _ c).1] at i;cases i)]
  exact p k o i
 ·exact n g (fun z j e=>by subst e;exact (fr _ j).2.2 c) (fun z j e=>by subst e;exact d _ j c)
theorem CV.pubw {l:List Int} {f:Option Addr} {cap:Nat} (H:CV hb h b sets most gs who) (P:Pub (zD4 h who) 3 (wA Int) l.length (l.flatMap qx) f cap h2) :
  h2 b=some (.cells #[sets.val,.int .i64 most,gs.val,who.val] 350 (0,0))∧CV hb (h2.ins b (.cells #[sets.val,.int .i64 most,gs.val,(Sl.mk f cap l).val] 350 (0,0))) b sets most gs (Sl.mk f cap l)∧∀ g,f=some ⟨g,0,none⟩→h g=none∨who.a=some ⟨g,0,none⟩:=by
 obtain ⟨⟨p,D,F,q⟩,⟨r,t⟩,⟨r2,m⟩,d⟩:=id H
 obtain ⟨u,s,n⟩:=zJC r2 P
 have fr:∀ g,f=some ⟨g,0,none⟩→hb g=none∧g ≠ b∧gs.a ≠ some ⟨g,0,none⟩:=fun g c=>by
  rcases s g c with x|x
  ·refine ⟨?_,fun e=>(by subst e;rw [q] at x;cases x),fun e=>zJD r e x⟩
   cases w:hb g with
   | none=>rfl
   | some o=>rw [p g o w] at x;cases x
  ·exact ⟨(m g x).1,(m g x).2,fun e=>d g e x⟩
 have y:h2 b=h b:=n b (fun g c e=>(fr g c).2.1 e.symm) fun g c e=>(m g c).2 e.symm
 refine ⟨by rw [y];exact q,CV.mk2 H (fun k o i=>?_) (r.keep fun g c=>?_) t u (fun g c=>⟨(fr g c).1,(fr g c).2.1⟩) (fun g c e=>(fr g e).2.2 c),s⟩
 ·rw [n k (fun g c e=>by subst e;rw [(fr _ c).1] at i;cases i) (fun g c e=>by subst e;rw [(m _ c).1] at i;cases i)]
  exact p k o i
 ·exact n g (fun z j e=>by subst e;exact (fr _ j).2.2 c) (fun z j e=>by subst e;exact d _ c j)
theorem CV.tog {k:Nat} (H:CV hb h b sets most gs who) (a:k≤gs.l.length):CV hb (h.ins b (.cells #[sets.val,.int .i64 most,(gs.to k).val,who.val] 350 (0,0))) b sets most (gs.to k) who:=by
 obtain ⟨⟨c,i,j,m⟩,⟨e,f⟩,⟨r2,g⟩,d⟩:=id H
 exact CV.mk2 H c (zJB e a) f r2 g d
theorem CV.tow {k:Nat} (H:CV hb h b sets most gs who) (a:k≤who.l.length):CV hb (h.ins b (.cells #[sets.val,.int .i64 most,gs.val,(who.to k).val] 350 (0,0))) b sets most gs (who.to k):=by
 obtain ⟨⟨c,i,j,m⟩,⟨e,f⟩,⟨r2,g⟩,d⟩:=id H
 exact CV.mk2 H c e f (zJB r2 a) g d
theorem CV.setg {i:Nat} (u:U64) (H:CV hb h b sets most gs who) (p:i < gs.l.length) :
  ∃ g cur,gs.a=some ⟨g,0,none⟩∧h g=some (.cells cur 356 (0,0))∧i+1≤cur.size∧CV hb (h.ins g (.cells (spl i [.int .u64 u.n] cur.toList).toArray 356 (0,0))) b sets most ⟨gs.a,gs.cap,gs.l.set i u⟩ who:=by
 obtain ⟨⟨q,r,s,t⟩,⟨w,f⟩,⟨r2,x⟩,d⟩:=id H
 obtain ⟨g,cur,c,y,z,R⟩:=zJA (u:=u) w p
 refine ⟨g,cur,c,y,z,⟨fun k o j=>?_,r,s,?_⟩,⟨R,f⟩,⟨r2.keep fun D m=>JJ (fun e=>by subst e;exact d _ c m),x⟩,d⟩
 ·rw [JJ (fun e=>by subst e;rw [(f _ c).1] at j;cases j)]
  exact q k o j
 ·rw [JJ (fun e=>(f g c).2 e.symm),t]
  simp only [Sl.val,wc]
end
def zJE (r:Option (List Nat)) (wn:List Nat) (v:Value) (gl:List U64) (wl:List Int):Prop:=match r with
 | none=>v=.bool false∧gl=grpL (zEs wn) wn∧wl=zs wn
 | some w=>v=.bool true∧wl=zs w
section
variable {hb h h2:Hp} {b most:Nat} {sets gs:Sl U64} {who:Sl Int}
theorem CV.flds (H:CV hb h b sets most gs who):h.lds (some ⟨b,0,none⟩) 1=some [sets.val]∧h.lds (some ⟨b,1,none⟩) 1=some [.int .i64 most]∧h.lds (some ⟨b,2,none⟩) 1=some [gs.val]∧h.lds (some ⟨b,3,none⟩) 1=some [who.val] :=
 ⟨zzg (xs:=[sets.val,.int .i64 most,gs.val,who.val]) H.1.2.2.2 rfl (by simp),zzg (xs:=[sets.val,.int .i64 most,gs.val,who.val]) H.1.2.2.2 rfl (by simp),zzg (xs:=[sets.val,.int .i64 most,gs.val,who.val]) H.1.2.2.2 rfl (by simp),zzg (xs:=[sets.val,.int .i64 most,gs.val,who.val]) H.1.2.2.2 rfl (by simp)⟩
theorem CV.gok {m:Nat} {a:List Nat} (H:CV hb h b sets most gs who) (d:gs.l=grpL m a) (e:a.length≤12):gs.Ok h:=H.2.1.1.ok (by decide) fun x c=>by
 rw [d,grpL] at c
 obtain ⟨p,_,rfl⟩:=List.mem_map.1 c
 exact yK zJp (wG (by decide) (by omega))
end
theorem zJF {a:List Nat} {c:Nat} (h:∀ p,p < zEs a→p ∈ a) (e:c≤zEs a):∀ p,p < zEs (a ++ [c])→p ∈ a ++ [c]:=fun p d=>by
 rw [zEu] at d
 rcases wv p (zEs a) with b|b
 ·exact yy _ (h p b)
 ·have:p=c:=by omega
  subst this;exact yb _ (List.mem_singleton.2 rfl)
theorem zJG (both:Nat→Nat→Bool) (hb:Hp) (b:Nat) (sets:Sl U64) (n most:Nat) (hn:sets.l.length=n) (ao:n≤12) (hm:most≤12) (hs:∀ i (hi:i < sets.l.length) k,(sets.l[i].n).testBit k=(decide (k < n) && (decide (i ≠ k) && both i k))) :
  ∀ (f:Nat) (d:List Nat) (gs:Sl U64) (who:Sl Int) (h:Hp),CV hb h b sets most gs who→gs.l=grpL (zEs d) d→who.l=zs d→d.length+f=n→(∀ p,p < zEs d→p ∈ d)→zEs d≤most →
   Cw jV 310 [.pointer (some ⟨b,0,none⟩)] h (fun k=>hb k=none∧h k ≠ none) fun v h'=>∃ (bh:Sl U64) (ap:Sl Int),CV hb h' b sets most bh ap∧zJE (zEt both most f d) d v bh.l ap.l
 | 0,d,gs,who,h,H,hg,hw,bp,aq,bz=>by
  have au:who.l.length=sets.l.length:=by rw [hw,zJd];omega
  obtain ⟨q0,q1,q2,q3⟩:=H.flds
  refine zlK (fun A W=>by simp) Tryz.func310 rfl rfl (by simp)  (fun k N=>N.2) fun W0 hW=>?_
  repeat' first|refine Wa ?_|(simp only [go_sem,jq,jj,jy,jv,jk,jx,q0,q3,au,true_or,JA];try rfl)|refine Wb ?_|fail
  refine zc9 rfl (fun m=>?_) (fun m=>?_)
  ·refine Wk ?_
   exact ⟨gs,who,H,rfl,hw⟩
  ·simp at m
 | f+1,d,gs,who,h,H,hg,hw,bp,aq,bz=>by
  have au:who.l.length=d.length:=by rw [hw,zJd]
  have b7:¬ ((d.length:Int)=sets.l.length):=by omega
  obtain ⟨q0,q1,q2,q3⟩:=H.flds
  refine zlK (fun A W=>by simp) Tryz.func310 rfl rfl (by simp)  (fun k N=>N.2) fun W0 hW=>?_
  have own:∀ k,hb k=none→h k=none∨W0.own k:=fun k N=>by
   cases hh:h k with
   | none=>exact .inl rfl
   | some o=>exact .inr (hW k ⟨N,by rw [hh];simp⟩)
  repeat' first|refine Wa ?_|(simp only [go_sem,jq,jj,jy,jv,jk,jx,q0,q3,au,true_or,JA];try rfl)|refine Wb ?_|fail
  refine zc9 rfl (fun m=>?_) (fun m=>?_)
  ·exact (b7 (eq_of_beq m)).elim
  refine Wk ?_
  refine zde (ι:=Nat × Hp × Sl U64 × Sl Int) (fun i=>⟨[(0,true,.c (.v (.pointer (some ⟨b,0,none⟩)))),(2,true,.c (.v (.bool false))),(3,true,.c (.v (.int .i64 d.length))),(4,true,.c (.v (.int .i64 i.1)))],[],i.2.1,0⟩) (fun i=>CV hb i.2.1 b sets most i.2.2.1 i.2.2.2∧i.2.2.1.l=grpL (zEs d) d∧i.2.2.2.l=zs d∧i.1≤zEs d∧∀ c,c < i.1→srGo both most f d c=none) (fun i=>13 - i.1) (0,h,gs,who) ⟨H,hg,hw,jC _,fun c hc=>absurd hc (qE _)⟩ ?_ ?_
  ·refine Evs ?_
   exact Gk
  rintro ⟨c,q,r,e⟩ ⟨u,O,Q,bi,R⟩
  simp only at u O Q bi R
  have bj:r.l.length=zEs d:=by rw [O,zJm]
  obtain ⟨p0,p1,p2,p3⟩:=u.flds
  repeat' first|refine Wa ?_|(simp only [go_sem,jq,jj,jy,jv,jk,jx,p1,p2,bj,true_or,JA];try rfl)|refine Wb ?_|fail
  refine zc9 rfl (fun m=>?_) (fun m=>?_)
  ·have cr:c < most:=by
    rw [jJ,JD,JD] at m
    omega
   repeat' first|refine Wa ?_|(simp only [go_sem,jq,jj,jy,jv,jk,jx,p1,p2,bj,true_or,JA];try rfl)|refine Wb ?_|fail
   refine zEq (ι:=Hp × Sl U64) (fun i=>⟨[(0,true,.c (.v (.pointer (some ⟨b,0,none⟩)))),(2,true,.c (.v (.bool false))),(3,true,.c (.v (.int .i64 d.length))),(4,true,.c (.v (.int .i64 c)))],[],i.1,0⟩) (fun i=>CV hb i.1 b sets most i.2 e∧i.2.l=grpL (zEs (d ++ [c])) d) ?_ ?_
   ·refine zc9 rfl (fun t=>?_) (fun t=>?_)
    ·refine zzq [0,0,0,0,0,0,3,0,0,1] rfl ?_
     simp only [go_sem,jq,jj,jy,jv,jk,jx,p2,true_or,JA]
     refine zD6 (s:=r) rfl u.2.1.1 (fun g hg=>own g (u.2.1.2 g hg).1) ?_
     simp only [go_sem,jq,jj,jy,jv,jk,jx,p2,true_or,JA]
     refine ⟨rfl,by simp only [maxLen];omega,by omega,fun X cap h2 P=>?_⟩
     have t:=eq_of_beq t
     have Y:zEs (d ++ [c])=zEs d+1:=by rw [zEu];omega
     have P':Pub (zD4 q r) 356 (wA U64) (r.l ++ [(⟨0⟩:U64)]).length ((r.l ++ [(⟨0⟩:U64)]).flatMap qx) X cap h2:=by
      rw [jP,jF];exact P
     obtain ⟨b2,C2,-⟩:=u.pubg P'
     refine zl5 (by simp only [go_sem]) (by simp only [go_sem]) rfl rfl b2 (own b u.1.2.2.1) (by simp) ?_
     refine Evs ?_
     refine ⟨(h2.ins b (.cells #[sets.val,.int .i64 most,(Sl.mk X cap (r.l ++ [(⟨0⟩:U64)])).val,e.val] 350 (0,0)),⟨X,cap,r.l ++ [⟨0⟩]⟩),⟨C2,by rw [Y,O];exact zJy (qV _)⟩,?_⟩
     refine Evs ?_
     simp only [zEG,Sl.val,jP,jg]
    ·have t:=ne_of_beq_false t
     have Y:zEs (d ++ [c])=zEs d:=by rw [zEu];omega
     refine Wk ?_
     refine ⟨(q,r),⟨u,by rw [O,Y]⟩,?_⟩
     exact Evc
   rintro ⟨h2,y⟩ ⟨Z,D⟩
   simp only at Z D
   have z:c < zEs (d ++ [c]):=by rw [zEu];omega
   have bq:zEs (d ++ [c])≤most:=by rw [zEu];omega
   have F:c < y.l.length:=by rw [D,zJm];exact z
   have ac:(c:Int) < y.l.length:=by omega
   have gok:=Z.gok D (by omega)
   have hi:d.length < sets.l.length:=by omega
   have b8:(d.length:Int) < sets.l.length:=by omega
   have bk:=Z.1.2.1.mono Z.1.1
   have hv:y.l[c].n=grpM d c:=by simp only [D,zJn]
   obtain ⟨S,sv⟩:∃ S,sets.l[d.length].n=S:=⟨_,rfl⟩
   have av:zH1 (grpM d c) S=0 ↔ zEr both d c=true:=zJz (n:=n) (by omega) ao (fun k=>by rw [← sv];exact hs _ hi k)
   have ci:grpM d c < 2 ^ 12:=yK zJp (wG (by decide) (by omega))
   have b9:zaE .andNot .u64 ((grpM d c:Nat):Int) ((S:Nat):Int)=((zH1 (grpM d c) S:Nat):Int):=zId (by omega)
   obtain ⟨r0,r1,r2,r3⟩:=Z.flds
   have ae:=zEa gok F
   have aw:=zEa bk hi
   simp only [wy] at ae aw
   refine Wk ?_
   refine zz5 rfl ?_
   refine U_t [0,4,7,11,1,8,2,9,3,10,5,12,6,13,14,15] rfl ?_
   simp only [go_sem,jq,jj,jy,jv,jk,jx,r0,r2,hv,sv,b9,ae,gok.some F,F,ac,aw,bk.some hi,hi,b8,jW,jY,wy,Jg,JA,JB,JC,true_or]
   refine U_d ?_
   refine Wk ?_
   refine zEq (ι:=Hp × Sl U64 × Sl Int) (fun i=>⟨[(0,true,.c (.v (.pointer (some ⟨b,0,none⟩)))),(2,true,.c (.v (.bool false))),(3,true,.c (.v (.int .i64 d.length))),(4,true,.c (.v (.int .i64 c)))],[],i.1,0⟩) (fun i=>CV hb i.1 b sets most i.2.1 i.2.2∧i.2.1.l=grpL (zEs (d ++ [c])) d∧i.2.2.l=zs d∧srGo both most f d c=none) ?_ ?_
   ·refine zc9 rfl (fun t=>?_) (fun t=>?_)
    ·have ai:zEr both d c=true:=av.1 (by have:=eq_of_beq t;omega)
     have aj:=zIM (j:=d.length) (by omega)
     have ct:2 ^ d.length≤2 ^ 12:=wG (by decide) (by omega)
     have bl:zaE .or .u64 ((grpM d c:Nat):Int) ((2 ^ d.length:Nat):Int)=((grpM d c ||| 2 ^ d.length:Nat):Int):=zIb (by omega) (by omega)
     obtain ⟨g,cur,ga,gb,ca,C3⟩:=Z.setg ⟨grpM d c ||| 2 ^ d.length⟩ F
     have ag:=ae
     simp only [ga,qq,za4,jb] at ag
     refine Wk ?_
     refine zz5 rfl ?_
     refine U_t [0,4,7,1,8,2,3,5,6,9,10] rfl ?_
     simp only [go_sem,jq,jj,jy,jv,jk,jx,r0,r2,hv,bl,aj,ga,ag,F,ac,qq,za4,jX,jW,jY,wy,jb,qJ,jE,Jg,JA,JB,JC,true_or]
     refine U_1 11 1 [] rfl rfl ?_
     simp only [go_sem,jq,jj,jy,jv,jk,jx,r0,r2,hv,bl,aj,ga,ag,F,ac,qq,za4,jX,jW,jY,wy,jb,qJ,jE,Jg,JA,JB,JC,true_or]
     refine zl5 (by simp only [go_sem]) (by simp only [go_sem]) rfl rfl gb (own g (Z.2.1.2 g ga).1) ca ?_
     refine Evs ?_
     generalize h2.ins g (.cells (spl c [.int .u64 ((grpM d c ||| 2 ^ d.length:Nat):Int)] cur.toList).toArray 356 (0,0))=h3 at C3 ⊢
     refine U_d ?_
     obtain ⟨t0,t1,t2,t3⟩:=C3.flds
     have co:e.l.length=d.length:=by rw [Q,zJd]
     first|refine zzr [0,0,0,0,0,0,0,3,0,0,1] rfl ?_|refine zzq [0,0,0,0,0,0,0,3,0,0,1] rfl ?_|(refine zc3 ?_;first|refine zzr [0,0,0,0,0,0,0,3,0,0,1] rfl ?_|refine zzq [0,0,0,0,0,0,0,3,0,0,1] rfl ?_)
     simp only [go_sem,jq,jj,jy,jv,jk,jx,t3,true_or,JA]
     refine zD6 (s:=e) rfl C3.2.2.1.1 (fun g hg=>own g (C3.2.2.1.2 g hg).1) ?_
     simp only [go_sem,jq,jj,jy,jv,jk,jx,t3,true_or,JA]
     refine ⟨rfl,by simp only [maxLen];omega,by omega,fun X cap h4 P=>?_⟩
     have P':Pub (zD4 h3 e) 3 (wA Int) (e.l ++ [(c:Int)]).length ((e.l ++ [(c:Int)]).flatMap qx) X cap h4:=by
      rw [jP,jF];exact P
     obtain ⟨b4,C4,-⟩:=C3.pubw P'
     refine zl5 (by simp only [go_sem]) (by simp only [go_sem]) rfl rfl b4 (own b u.1.2.2.1) (by simp) ?_
     simp only [go_sem,jq,jj,jy,jv,jk,jx,zEH]
     rw [show (Sl.mk X cap (e.l ++ [(c:Int)])).val=.slice X (e.l.length+1) cap from by simp only [Sl.val,jP,jg]] at C4
     generalize h4.ins b (.cells #[sets.val,.int .i64 most,(Sl.mk y.a y.cap (y.l.set c ⟨grpM d c ||| 2 ^ d.length⟩)).val,.slice X (e.l.length+1) cap] 350 (0,0))=h5 at C4 ⊢
     first|refine zzr [0,1] rfl ?_|refine zzq [0,1] rfl ?_|(refine zc3 ?_;first|refine zzr [0,1] rfl ?_|refine zzq [0,1] rfl ?_)
     refine Evs ?_
     refine zlL (zJG both hb b sets n most hn ao hm hs f (d ++ [c]) _ _ h5 C4 (by rw [D];exact zJu z) (by rw [Q];simp [zs]) (by rw [jP,jg];omega) (zJF aq bi) bq) rfl (fun k N=>⟨N.2,own k N.1⟩) ?_
     rintro v h6 kp ⟨aa,J,C6,K⟩
     cases hr:zEt both most f (d ++ [c]) with
     | some w =>
      rw [hr] at K
      obtain ⟨rfl,ak⟩:=K
      refine Evs ?_
      refine Wk ?_
      refine zc9 rfl (fun m=>?_) (fun m=>?_)
      case refine_2=>cases m
      refine Wk ?_
      have cb:srGo both most f d c=some w:=by rw [srGo,if_pos ai];exact hr
      have cd:zEt both most (f+1) d=some w:=by
       unfold zEt
       exact zJc (α:=Nat) R cb (by omega)
      rw [cd]
      exact ⟨aa,J,C6,rfl,ak⟩
     | none =>
      rw [hr] at K
      obtain ⟨rfl,al,ak⟩:=K
      refine Evs ?_
      refine Wk ?_
      refine zc9 rfl (fun m=>?_) (fun m=>?_)
      ·cases m
      refine zc5 ?_
      refine Evs ?_
      have cp:J.l.length=d.length+1:=by rw [ak,zJd,jP,jg]
      obtain ⟨t0,t1,t2,t3⟩:=C6.flds
      first|refine zzr [0,0,0,0,0,0,0,0,0,1] rfl ?_|refine zzq [0,0,0,0,0,0,0,0,0,1] rfl ?_|(refine zc3 ?_;first|refine zzr [0,0,0,0,0,0,0,0,0,1] rfl ?_|refine zzq [0,0,0,0,0,0,0,0,0,1] rfl ?_)
      simp only [go_sem,jq,jj,jy,jv,jk,jx,t3,true_or,JA,je,jA,zza,zzb,ite_self,qQ]
      have cj:=C6.2.2.1.1.1
      refine ⟨by omega,?_⟩
      rw [zzc (by omega)]
      have C7:=C6.tow (k:=d.length) (by omega)
      refine zl5 (by simp only [go_sem]) (by simp only [go_sem]) rfl rfl C6.1.2.2.2 (own b u.1.2.2.1) (by simp) ?_
      simp only [go_sem,jq,jj,jy,jv,jk,jx,zEH]
      generalize h6.ins b (.cells #[sets.val,.int .i64 most,aa.val,(J.to d.length).val] 350 (0,0))=h7 at C7 ⊢
      have am:c < aa.l.length:=by rw [al,zJm];exact z
      have ax:(c:Int) < aa.l.length:=by omega
      have br:=C7.gok al (by rw [jP,jg];omega)
      have bm:aa.l[c].n=grpM (d ++ [c]) c:=by simp only [al,zJn]
      have ah:=zEa br am
      have cq:grpM (d ++ [c]) c < 2 ^ 13:=yK zJp (wG (by decide) (by rw [jP,jg];omega))
      have az:zaE .andNot .u64 ((grpM (d ++ [c]) c:Nat):Int) ((2 ^ d.length:Nat):Int)=((grpM d c:Nat):Int):=by rw [zId (by omega),zJv (by omega)]
      obtain ⟨g7,bt,an,ce,bu,C8⟩:=C7.setg ⟨grpM d c⟩ am
      simp only [wy,an,qq,za4,jb] at ah
      obtain ⟨t0,t1,t2,t3⟩:=C7.flds
      refine zz5 rfl ?_
      refine U_t [0,4,7,1,8,2,3,5,6,9,10] rfl ?_
      simp only [go_sem,jq,jj,jy,jv,jk,jx,t2,bm,az,aj,an,ah,am,ax,qq,za4,jX,jW,jY,wy,jb,qJ,jE,Jg,JA,JB,JC,true_or]
      refine U_1 11 1 [] rfl rfl ?_
      simp only [go_sem,jq,jj,jy,jv,jk,jx,t2,bm,az,aj,an,ah,am,ax,qq,za4,jX,jW,jY,wy,jb,qJ,jE,Jg,JA,JB,JC,true_or]
      refine zl5 (by simp only [go_sem]) (by simp only [go_sem]) rfl rfl ce (own g7 (C7.2.1.2 g7 an).1) bu ?_
      refine Evs ?_
      generalize h7.ins g7 (.cells (spl c [.int .u64 ((grpM d c:Nat):Int)] bt.toList).toArray 356 (0,0))=h8 at C8 ⊢
      refine U_d ?_
      refine ⟨(h8,_,_),⟨C8,by simp only [al];exact zJw z,?_,by rw [srGo,if_pos ai];exact hr⟩,?_⟩
      ·show J.l.take d.length=zs d
       rw [ak,zs,qB,List.take_append_of_le_length (by rw [jH];exact qV _)]
       exact qy (by rw [jH];exact qV _)
      exact Evc
    ·have ai:zEr both d c=false:=by
      rw [← Bool.not_eq_true,← av]
      have:=ne_of_beq_false t;omega
     refine Wk ?_
     refine ⟨(h2,y,e),⟨Z,D,Q,by rw [srGo,if_neg (by rw [ai];exact qa)]⟩,?_⟩
     exact Evc
   rintro ⟨h9,ab,bv⟩ ⟨H9,G,a7,a8⟩
   simp only at H9 G a7 a8
   have bd:c < ab.l.length:=by rw [G,zJm];exact z
   have bw:(c:Int) < ab.l.length:=by omega
   have bf:=H9.gok G (by omega)
   have cf:ab.l[c].n=grpM d c:=by simp only [G,zJn]
   have bg:=zEa bf bd
   simp only [wy] at bg
   obtain ⟨t0,t1,t2,t3⟩:=H9.flds
   repeat' first|refine Wa ?_|(simp only [go_sem,jq,jj,jy,jv,jk,jx,t2,cf,bg,bf.some bd,bd,bw,jW,jY,wy,Jg,JA,JB,JC,true_or];try rfl)|refine Wb ?_|fail
   refine zc9 rfl (fun hz=>?_) (fun hz=>?_)
   ·have hz:grpM d c=0:=by have:=eq_of_beq hz;omega
    have bn:c=zEs d:=by
     rcases wv c (zEs d) with q|q
     ·exact (zJr (aq c q) hz).elim
     ·omega
    first|refine zzr [0,0,0,0,0,0,0,0,0,1] rfl ?_|refine zzq [0,0,0,0,0,0,0,0,0,1] rfl ?_|(refine zc3 ?_;first|refine zzr [0,0,0,0,0,0,0,0,0,1] rfl ?_|refine zzq [0,0,0,0,0,0,0,0,0,1] rfl ?_)
    simp only [go_sem,jq,jj,jy,jv,jk,jx,t2,true_or,JA,je,jA,zza,zzb,ite_self,qQ]
    have cm:=H9.2.1.1.1
    refine ⟨by omega,?_⟩
    rw [zzc (by omega)]
    have cg:=H9.tog (k:=c) (by omega)
    refine zl5 (by simp only [go_sem]) (by simp only [go_sem]) rfl rfl H9.1.2.2.2 (own b u.1.2.2.1) (by simp) ?_
    simp only [go_sem,jq,jj,jy,jv,jk,jx,zEG]
    refine Wk ?_
    have M:zEt both most (f+1) d=none:=by
     unfold zEt
     rw [uf]
     intro x t
     have t:=List.mem_range.1 t
     rcases wv x c with q|q
     ·exact R x q
     ·obtain rfl:x=c:=by omega
      exact a8
    rw [M]
    refine ⟨_,_,cg,rfl,?_,a7⟩
    show ab.l.take c=_
    rw [G,zJx (by omega),bn]
   ·have hz:¬ grpM d c=0:=by have:=ne_of_beq_false hz;omega
    have bn:c < zEs d:=by
     rcases wv c (zEs d) with q|q
     ·exact q
     ·exact (hz (zJq q)).elim
    have Y:zEs (d ++ [c])=zEs d:=by rw [zEu];omega
    refine Wk ?_
    refine ⟨(c+1,h9,ab,bv),⟨H9,by rw [G,Y],a7,by omega,fun c' cu=>?_⟩,by simp only;omega,zjB (zjA (n:=4096) (k:=c) (by omega) (by omega)),rfl⟩
    rcases wv c' c with q|q
    ·exact R c' q
    ·obtain rfl:c'=c:=by omega
     exact a8
  ·have cw:most≤c:=by
    rw [qA,JH,JH] at m
    omega
   have M:zEt both most (f+1) d=none:=by
    unfold zEt
    rw [uf]
    exact fun x t=>R x (by have:=List.mem_range.1 t;omega)
   rw [M]
   refine Wk ?_
   exact ⟨r,e,u,rfl,O,Q⟩
def zJH (p:Int) (m:List Int) (l:List DDuty) (i k:Nat):Bool:=fol2 p m (l.getD i dD) (l.getD k dD)
def zJI (both:Nat→Nat→Bool) (n:Nat):Option (List Nat × Nat):=(wg (n+1)).findSome? fun k=>(zEt both k n []).map fun w=>(w,k)
def zJJ (p:Int) (m:List Int) (l:List DDuty):Bool:=zIs l && (In p 0 2880 && zBD m)
def zJK (p:Int) (m:List Int) (l:List DDuty):List Int × Int × Bool:=if zJJ p m l=true then (match zJI (zJH p m l) l.length with|some (w,k)=>(zs w,(k:Int),true)|none=>([],0,false)) else ([],0,false)
theorem zJL {both:Nat→Nat→Bool} {n k:Nat}:(zEt both k n []).isSome=true ↔ CovOn both (fun i=>i < n) k:=zEz
theorem zJM {both:Nat→Nat→Bool} {n k:Nat} {w:List Nat} (h:∀ j,j < k→zEt both j n []=none) (a:zEt both k n []=some w) (d:k≤n):zJI both n=some (w,k):=by
 unfold zJI
 exact zJc (α:=Nat) (n:=k) (fun c b=>by rw [h c b];rfl) (by rw [a];rfl) (by omega)
theorem zJN {both:Nat→Nat→Bool} {n m:Nat} (H:zIe both (2 ^ n - 1) m):∃ w,zEt both m n []=some w∧zJI both n=some (w,m)∧m≤n:=by
 have e:(fun i=>(2 ^ n - 1).testBit i=true)=fun i=>i < n:=by
  funext i;rw [Nat.testBit_two_pow_sub_one,JD]
 obtain ⟨a,h2⟩:=H
 rw [e] at a h2
 obtain ⟨w,b⟩:=Option.isSome_iff_exists.1 (zJL.2 a)
 have c:m≤n:=h2 n (CovOn.id fun i d=>d)
 refine ⟨w,b,zJM (fun j g=>?_) b c,c⟩
 cases f:zEt both j n [] with
 | none=>rfl
 | some w' =>
  have:=h2 j (zJL.1 (by rw [f];rfl))
  omega
theorem zJO {both:Nat→Nat→Bool} {n:Nat}:(zJI both n).isSome=true:=by
 obtain ⟨w,b⟩:=Option.isSome_iff_exists.1 (zJL.2 (CovOn.id (both:=both) (s:=fun i=>i < n) fun i c=>c))
 rw [Option.isSome_iff_ne_none]
 intro a
 unfold zJI at a
 rw [uf] at a
 have:=a n (List.mem_range.2 (by omega))
 rw [b] at this;cases this
theorem zJP {l:List DDuty} (h:zIs l=true):l.length≤12∧∀ i (a:i < l.length),zIr l[i]=true:=by
 rw [zIs,jJ,JD,wY] at h
 exact ⟨h.1,fun i a=>h.2 _ (qd a)⟩
theorem zJQ {p:Int} {m:List Int} {l:List DDuty} (h:zJJ p m l=true):zIs l=true∧In p 0 2880=true∧zBD m=true:=by
 rw [zJJ,jJ,jJ] at h;exact h
theorem zJR {p:Int} {m:List Int} {l:List DDuty} (h:zJJ p m l=false):zJK p m l=([],0,false):=by rw [zJK,if_neg (by rw [h];exact qa)]
theorem zJS {p:Int} {m:List Int} {l:List DDuty} {w:List Nat} {k:Nat} (h:zJJ p m l=true) (a:zJI (zJH p m l) l.length=some (w,k)):zJK p m l=(zs w,(k:Int),true):=by rw [zJK,if_pos h,a]
theorem zJT {p:Int} {m:List Int} {l:List DDuty} (h:zJJ p m l=true):(zJK p m l).2.2=true:=by
 obtain ⟨w,a⟩:=Option.isSome_iff_exists.1 (zJO (both:=zJH p m l) (n:=l.length))
 rw [zJS h a]
theorem zJU {e:TypeId} {h h':Hp} {s:Sl Int} (H:RowAt e h' s) (n:∀ g,s.a=some ⟨g,0,none⟩→h g=none):Mine h h' s:=by
 by_cases d:s.l=[]
 ·rcases s with ⟨a,c,l⟩
  simp only at d;subst d;exact Mine.nil
 ·obtain ⟨r,h2,⟨f,j,t⟩|⟨g,cur,f,o,k,q⟩⟩:=H
  ·exact (d j).elim
  ·have p:s.l.flatMap (qj (α:=Int))=[]:=by rw [Jv];exact fun x _=>rfl
   have m:qj s=[g]:=by
    rw [show qj s=_ from Sl.foot_ne d,p]
    simp [Sl.blkOf,f]
   refine ⟨fun _=>⟨⟨g,cur,e,f,o,k⟩,fun x _=>trivial⟩,fun b i=>?_,by rw [m];simp⟩
   rw [m,ya] at i
   subst i;exact n _ f
theorem zJV (p:Int) (m:Sl Int) (a:Sl DDuty) (h:Hp) (b:m.Ok h) (c:a.Ok h):Ct jV 307 [.int .i64 p,m.val,a.val] h fun v h'=>v=.bool (zJJ p m.l a.l)∧h'=h:=by
 refine zdn (fun A W=>by simp) Tryz.func307 rfl rfl (by simp) fun W0=>?_
 repeat' first|refine Wa ?_|refine zhF (fun _=>zIy a _ c) ?_|refine zhF (fun _=>zAC _ _) ?_|refine zhF (fun _=>zBR m _ b) ?_|(simp only [go_sem,jq,jj,jy,jv,jk,jx];try rfl)|refine Wb ?_|fail
 congr 1;rw [yq];simp only [zJJ,In,jJ,jQ,jd,JD,JH,beq_iff_eq,and_assoc]
theorem zJW (p:Int) (m:Sl Int) (a:Sl DDuty) (h:Hp) (R:m.Ok h) (X:a.Ok h):Ct jV 285 [.int .i64 p,m.val,a.val] h fun v h'=>∃ s:Sl Int,v=.tuple #[s.val,.int .i64 (zJK p m.l a.l).2.1,.bool (zJK p m.l a.l).2.2]∧s.l=(zJK p m.l a.l).1∧s.Ok h'∧Mine h h' s:=by
 refine zdn (fun A W=>by simp) Tryz.func285 rfl rfl (by simp) fun W0=>?_
 repeat' first|refine Wa ?_|refine zhF (fun _=>zIw a _ X) ?_|refine zhF (fun _=>zBQ p m _ R) ?_|(simp only [go_sem,jq,jj,jy,jv,jk,jx];try rfl)|refine Wb ?_|fail
 refine zc9 rfl (fun b=>?_) (fun b=>?_)
 ·rw [zJR (by
   rw [zJJ]
   simp only [jQ,jd] at b
   rcases b with b|b
   ·rw [b];rfl
   ·rw [b,qP])]
  refine Wk ?_
  exact ⟨⟨none,0,[]⟩,rfl,rfl,znE,Mine.nil⟩
 simp only [jp,jf] at b
 have q:zJJ p m.l a.l=true:=by rw [zJJ,b.1,b.2];rfl
 obtain ⟨hD,hP,hT⟩:=zJQ q
 obtain ⟨z,J⟩:=zJP hD
 refine Wk ?_
 refine zkr (zIF p m a _ R hP hT X z J) rfl ?_
 rintro v r D ⟨f,rfl,F,K⟩
 have Y:f.l.length=a.l.length:=by have:=congrArg ud F;simpa [zIE] using this
 have Z:∀ i (u:i < f.l.length),f.l[i].l.length=a.l.length∧∀ k (t:k < f.l[i].l.length),k < i→f.l[i].l[k]=zJH p m.l a.l i k:=fun i u=>by
  have e:f.l[i].l=a.l.map fun e=>fol2 p m.l (a.l[i]'(by omega)) e:=by
   have:=congrArg (fun l=>l[i]?) F
   simp only [zIE,yC,qX u,qX (show i < a.l.length by omega),qq] at this
   exact Option.some.inj this
  refine ⟨by rw [e,jH],fun k t aj=>?_⟩
  have aa:k < a.l.length:=by rw [e,jH] at t;exact t
  simp only [e,qH]
  rw [zJH,dget (by omega),dget aa]
 refine Wk ?_
 refine zng (ι:=Nat × Hp) (fun i=>⟨[(2,true,.c (.v a.val)),(6,true,.c (.v (.slice none 0 0))),(7,true,.c (.v (.int .i64 0))),(8,true,.c (.v (.bool false))),(9,true,.c (.v f.val)),(10,true,.c (.v (.int .i64 i.1)))],[],i.2,0⟩) (fun i=>i.1≤a.l.length+1∧r.le i.2∧∀ j,j < i.1→zEt (zJH p m.l a.l) j a.l.length []=none) (fun i=>a.l.length+1 - i.1) (0,r) ⟨jC _,wW _,fun c hc=>absurd hc (qE _)⟩ [] ?_ ?_
 ·refine Evs ?_
  exact Gk
 rintro ⟨k,t⟩ ⟨ab,g,o⟩
 simp only at ab g o
 refine Wk ?_
 refine zc9 rfl (fun M=>?_) (fun M=>?_)
 ·have ac:k≤a.l.length:=by have:=JE M;omega
  refine zc5 ?_
  refine Evs ?_
  refine zc3 ?_
  refine zc8 ?_
  refine zzr [0,2] rfl ?_
  refine Evs ?_
  refine fun N cap O H=>?_
  have H':Pub t _ (wA Int) ([]:List Int).length (([]:List Int).flatMap qx) N cap O:=H
  have k1:(Sl.mk N cap ([]:List Int)).Ok O:=Pub.sl (by decide) H' (fun x Q=>by cases Q)
  refine zkr (zJl (zJH p m.l a.l) f a.l.length Y Z z k (by omega) a.l.length (Sl.mk N cap []) [] O (K.mono (jB g H.le)) k1 rfl (by simp) (fun x Q=>by cases Q)) rfl ?_
  rintro v g2 G d
  cases y:zEt (zJH p m.l a.l) k a.l.length [] with
  | none =>
   rw [y] at d
   have d:v=.tuple #[.slice none 0 0,.bool false]:=d
   subst d
   refine Evs ?_
   refine Wk ?_
   refine zc9 rfl (fun b=>?_) (fun b=>?_)
   ·cases b
   refine Wk ?_
   refine ⟨(k+1,g2),[],⟨by omega,jB g (jB H.le G),fun j hj=>?_⟩,by simp only;omega,?_⟩
   ·rcases wv j k with r|r
    ·exact o j r
    ·obtain rfl:j=k:=by omega
     exact y
   refine Evs ?_
   refine ⟨zjB (zjA (n:=4096) (k:=k) (by omega) (by omega)),jB D (jB g (jB H.le G)),?_⟩
   exact Gk
  | some w =>
   rw [y] at d
   obtain ⟨s,rfl,ae,ag,ah⟩:=d
   refine Evs ?_
   refine Wk ?_
   refine zc9 rfl (fun b=>?_) (fun b=>?_)
   case refine_2=>cases b
   refine Wk ?_
   rw [zJS q (zJM o y ac)]
   refine ⟨s,rfl,ae,ag,?_⟩
   rcases ah with h3|rfl
   ·exact h3.back (jB D (jB g H.le))
   ·exact Mine.nil
 ·exfalso
  have ai:a.l.length < k:=by have:=JF M;omega
  obtain ⟨w,hw⟩:=Option.isSome_iff_exists.1 (zJL.2 (CovOn.id (both:=zJH p m.l a.l) (s:=fun i=>i < a.l.length) fun i u=>u))
  rw [o _ ai] at hw;cases hw
theorem zJX (p:Int) (m:Sl Int) (a:Sl DDuty) (h:Hp) (R:m.Ok h) (X:a.Ok h):Ct jV 289 [.int .i64 p,m.val,a.val] h fun v h'=>∃ s:Sl Int,v=.tuple #[s.val,.int .i64 (zJK p m.l a.l).2.1,.bool (zJK p m.l a.l).2.2]∧s.l=(zJK p m.l a.l).1∧s.Ok h'∧Mine h h' s:=by
 refine zdn (fun A W=>by simp) Tryz.func289 rfl rfl (by simp) fun W0=>?_
 repeat' first|refine Wa ?_|refine zhF (fun _=>zJV p m a _ R X) ?_|(simp only [go_sem,jq,jj,jy,jv,jk,jx];try rfl)|refine Wb ?_|fail
 refine zc9 rfl (fun f=>?_) (fun f=>?_)
 ·rw [jd] at f
  rw [zJR f]
  refine Wk ?_
  exact ⟨⟨none,0,[]⟩,rfl,rfl,znE,Mine.nil⟩
 rw [jf] at f
 have j:=f
 obtain ⟨hD,hP,hT⟩:=zJQ j
 obtain ⟨F,O⟩:=zJP hD
 refine Wk ?_
 refine zkr (zIT p m a _ R hP hT X F O) rfl ?_
 rintro v h1 G ⟨b,rfl,H,q,ac⟩
 have r:b.l.length=a.l.length:=by rw [H,parL,jH,uQ]
 have J:∀ i (c:i < b.l.length) k,(b.l[i].n).testBit k=(decide (k < a.l.length) && (decide (i ≠ k) && zJH p m.l a.l i k)):=fun i c k=>by
  have:b.l[i]=⟨zIo (parP p m.l a.l i) a.l.length⟩:=by
   have e:=congrArg (fun l=>l[i]?) H
   simp only [parL,qX c,yC,List.getElem?_range (show i < a.l.length by omega),qq] at e
   exact Option.some.inj e
  rw [this]
  exact zIp
 refine Wk ?_
 refine zkr (zJb (zJH p m.l a.l) b _ q (by omega) (fun i c k=>by rw [J i c k,r])) rfl ?_
 rintro v h2 ae ⟨⟨z,rfl,K⟩,rfl⟩
 rw [r] at K
 obtain ⟨w,M,Y,ag⟩:=zJN K
 refine Evs ?_
 refine zze 0 rfl rfl fun g d ab=>?_
 refine Evs ?_
 have C0:CV h2 (h2.ins g (.cells #[b.val,.int .i64 z,(Sl.mk none 0 []:Sl U64).val,(Sl.mk none 0 []:Sl Int).val] 350 (0,0))) g b z (Sl.mk none 0 []) (Sl.mk none 0 []) :=
  ⟨⟨Hp.ins_le d,q,d,qD⟩,⟨⟨qV _,jC _,.inl ⟨rfl,rfl,rfl⟩⟩,fun g d=>by cases d⟩,⟨⟨qV _,jC _,.inl ⟨rfl,rfl,rfl⟩⟩,fun g d=>by cases d⟩,fun g d=>by cases d⟩
 first|refine zzr [0,1] rfl ?_|(refine zc3 ?_;refine zzq [0,1] rfl ?_)
 refine Evs ?_
 refine zlL (zJG (zJH p m.l a.l) h2 g b a.l.length z r F (by omega) J a.l.length [] (Sl.mk none 0 []) (Sl.mk none 0 []) _ C0 rfl rfl (by simp) (fun p hp=>absurd hp (qE _)) (jC _)) rfl (fun k Z=>⟨Z.2,.inl ?_⟩) ?_
 ·have:h2 k=none:=Z.1
  cases hh:h k with
  | none=>first|rfl|exact hh
  | some o=>rw [G k o hh] at this;cases this
 rintro v h6 kp ⟨ah,t,D,u⟩
 rw [M] at u
 obtain ⟨rfl,N⟩:=u
 refine Evs ?_
 obtain ⟨t0,t1,t2,t3⟩:=D.flds
 have aa:=zEw (most:=z) ⟨fun i c=>absurd c (qE _),fun i k c=>absurd c (qE _)⟩ M
 have Q:t.Ok h6:=D.2.2.1.1.ok (by decide) fun x hx=>by
  rw [N] at hx
  obtain ⟨y,hy,rfl⟩:=List.mem_map.1 hx
  obtain ⟨i,c,rfl⟩:=qL hy
  have:=aa.1.1 i c
  show I64 _;unfold I64;omega
 refine Wk ?_
 refine zz5 rfl ?_
 refine U_t [0,4,1,5,2,6,3,7,8,9,10] rfl ?_
 simp only [go_sem,jq,jj,jy,jv,jk,jx,t1,t3,true_or,JA]
 refine U_d ?_
 refine Wk ?_
 rw [zJS j Y]
 exact ⟨t,rfl,N,Q,zJU D.2.2.1.1 fun g d=>znR G (D.2.2.1.2 g d).1⟩
theorem zJY {s:DShip} {g:DSegment} (h:1≤g.minutes∧g.minutes≤240):1≤zCa s g∧zCa s g≤480:=by
 unfold zCa
 split
 ·rw [zjz (by omega)];omega
 ·omega
theorem zJZ {c:PChart} (h:zBp c=true) {i:Nat} (a:i < c.segments.length):1≤(c.segments.getD i dG).minutes∧(c.segments.getD i dG).minutes≤240:=by
 simp only [zBp,jJ,JD] at h
 have:=h.2 i a
 simp only [zBo,zBm,jJ,JD] at this
 exact ⟨this.1.2.2.2.2.2.2.2.1,this.1.2.2.2.2.2.2.2.2⟩
theorem zJ0 {c:PChart} (h:zBp c=true):c.points.length≤8∧∀ i,i < c.segments.length→0≤(c.segments.getD i dG).a∧(c.segments.getD i dG).a < c.points.length∧0≤(c.segments.getD i dG).b∧(c.segments.getD i dG).b < c.points.length:=by
 simp only [zBp,jJ,JD] at h
 refine ⟨h.1.1.1,fun i d=>?_⟩
 have:=h.2 i d
 simp only [zBo,zBm,jJ,JD] at this
 exact ⟨this.1.1,this.1.2.1,this.1.2.2.1,this.1.2.2.2.1⟩
theorem zJ1 {c:PChart} {f:List DShip} {p:DPassage} (h:zCc c f p=true):zBp c=true∧0≤p.seg∧p.seg < c.segments.length∧0≤p.start∧p.start < p.fin∧p.fin≤2880:=by
 rw [zCc,jJ,jJ,zCb,jJ,JD,JD] at h
 obtain ⟨⟨a,h2⟩,⟨k,l,d,e,g,m,j⟩,b⟩:=h
 have n:=zJY (s:=f.getD p.ship.toNat dH) (zJZ a (i:=p.seg.toNat) (by omega))
 rw [zjz (by omega)] at b
 exact ⟨a,d,e,g,by omega,j⟩
theorem zJ2 {c:PChart} (h:zBp c=true) {p:DPassage} (h0:0≤p.seg) (b:p.seg < c.segments.length):0≤(zB9 c p).1∧(zB9 c p).1 < 8∧0≤(zB9 c p).2∧(zB9 c p).2 < 8:=by
 obtain ⟨h2,a⟩:=zJ0 h
 have:=a p.seg.toNat (by omega)
 unfold zB9
 split <;> (dsimp only;omega)
theorem zJ3 {c:PChart} {f:List DShip} {p q:DPassage} (h:zCc c f p=true) (h2:zCc c f q=true) (i:p.start < q.fin):zIr (zFo c p q)=true:=by
 obtain ⟨a,b,d,j,k,l⟩:=zJ1 h
 obtain ⟨_,e,g,m,n,o⟩:=zJ1 h2
 have r:=zJ2 a b d
 have s:=zJ2 a e g
 unfold zIr zFo
 rw [JD]
 dsimp only
 omega
theorem zJ4 {c:PChart} {f:List DShip} {l:List DPassage} {d:List DDuty} (h:zHK c f l=some d):zIs d=true:=by
 rw [zHK] at h
 split at h
 ·rename_i b
  simp only [Option.some.injEq] at h
  subst h
  rw [zIs,jJ,JD,wY]
  refine ⟨b.2,fun x j=>?_⟩
  obtain ⟨y,k,e⟩:=List.mem_flatMap.1 j
  obtain ⟨i,g,rfl⟩:=qL k
  have a:=b.1 i g
  rw [pOk,qget g] at a
  rw [(List.mem_replicate.1 e).2]
  exact zJ3 a a (zJ1 a).2.2.2.2.1
 ·cases h
def zJ5 (w:PCrew) (c:PChart) (f:List DShip) (l:List DPassage):Int:=match zHK c f l with
 | none=>-1
 | some d=>if zBE w=true then (zJK 0 w.moves d).2.1 else -1
theorem zJ6 {w:PCrew} (h:zBE w=true):In w.rest 0 2880=true∧zBD w.moves=true:=by
 simp only [zBE,jJ] at h
 exact h.2
theorem zJ7 (w:DCrew):(jK w).moves=w.moves.l:=con_ints
theorem zJ8 (w:DCrew) (c:DChart) (f:Sl DShip) (a:Sl DPassage) (h:Hp) (o:jD h w) (p:jD h c) (q:f.Ok h) (r:a.Ok h):Ct jV 259 [w.v,c.v,f.val,a.val] h fun v h'=>v=.int .i64 (zJ5 (jK w) (jK c) f.l a.l)∧h'=h:=by
 refine Ct.forget ?_
 refine zdn (fun A W=>by simp) Tryz.func259 rfl rfl (by simp) fun W0=>?_
 refine Wk ?_
 refine zkr (zHT c f a _ p q r) rfl ?_
 rintro v t k ⟨s,rfl,e,m,z⟩
 have i:jD t w:=jL k o
 repeat' first|refine Wa ?_|refine zhF (fun _=>zBT w _ i) ?_|(simp only [go_sem,jq,jj,jy,jv,jk,jx];try rfl)|refine Wb ?_|fail
 refine zc9 rfl (fun b=>?_) (fun b=>?_)
 ·simp only [jQ,jd,Option.isSome_eq_false_iff,Option.isNone_iff_eq_none] at b
  refine Wk ?_
  rw [zJ5]
  rcases b with b|b
  ·cases zHK (jK c) f.l a.l with
   | none=>rfl
   | some d=>dsimp only;rw [if_neg (by rw [b];exact qa)]
  ·rw [b]
 simp only [jp,jf] at b
 obtain ⟨n,u⟩:=b
 obtain ⟨d,j⟩:=Option.isSome_iff_exists.1 u
 rw [j] at e
 have e:s.l=d:=e
 have g:(zJK 0 w.moves.l s.l).2.2=true:=zJT (by rw [zJJ,e,zJ4 j,← zJ7,(zJ6 n).2];rfl)
 refine Wk ?_
 refine zkr (zJW 0 w.moves s _ i.2.2.2 m) rfl ?_
 rintro v h2 x ⟨D,rfl,F,y,G⟩
 rw [g]
 refine Wk ?_
 refine zc9 rfl (fun b=>?_) (fun b=>?_)
 ·cases b
 refine Wk ?_
 rw [zJ5,j]
 dsimp only
 rw [if_pos n,zJ7,e]
def pilL (c:PChart) (f:List DShip) (l:List (List DPassage)):List DDuty:=(l.filter fun x=>decide (0 < x.length)).map fun x=>(zFp c f x).1
def zJ9 (c:PChart) (f:List DShip) (l:List (List DPassage)):Prop:=∀ x ∈ l,0 < x.length→(zFp c f x).2=true
noncomputable def zKa (w:PCrew) (c:PChart) (f:List DShip) (l:List (List DPassage)):Int:=open Classical in
 if zBE w=true∧zJ9 c f l∧(pilL c f l).length≤12 then (zJK w.rest w.moves (pilL c f l)).2.1 else -1
noncomputable def zKb (w:PCrew) (c:PChart) (f:List DShip) (l:List (List DPassage)):Bool:=In (zJ5 w c f l.flatten) 0 w.tugs && In (zKa w c f l) 0 w.pilots
theorem zKc {c:PChart} {f:List DShip} {l:List DPassage} (e:zFf c l=true) (d:∀ i,i < l.length→pOk c f l i=true):∀ k,k < l.length→(l.getD 0 dQ).start < (l.getD k dQ).fin
 | 0,b=>(zJ1 (d 0 b)).2.2.2.2.1
 | k+1,b=>by
  have g:=zKc e d k (by omega)
  have h:=(zJ1 (d (k+1) b)).2.2.2.2.1
  have h2:=JE (Bool.and_eq_true_iff.1 e).2 (k+1) b
  rw [chOk,jJ] at h2
  have a:=h2.2
  rw [chTo,jQ,JD,jJ,JD,JD] at a
  simp only [uW] at a
  rcases a with a|a
  ·omega
  ·have:=a.2;omega
theorem zKd {c:PChart} {f:List DShip} {l:List DPassage} (h:(zFp c f l).2=true):zIr (zFp c f l).1=true:=by
 rw [zFp] at h ⊢
 split
 ·rename_i a
  simp only [jJ,JD] at a
  obtain ⟨⟨h0,d⟩,b⟩:=a
  exact zJ3 (b 0 h0) (b (l.length - 1) (by omega)) (zKc d b _ (by omega))
 ·rename_i a;rw [if_neg a] at h;cases h
theorem zKe {c:PChart} {f:List DShip} {l:List (List DPassage)} (h:zJ9 c f l) (a:(pilL c f l).length≤12):zIs (pilL c f l)=true:=by
 rw [zIs,jJ,JD,wY]
 refine ⟨a,fun x b=>?_⟩
 obtain ⟨y,d,rfl⟩:=List.mem_map.1 b
 have:=List.mem_filter.1 d
 exact zKd (h y this.1 (JE this.2))
theorem zKf {c:PChart} {f:List DShip} {l:List (List DPassage)} {x:List DPassage} (h:0 < x.length):pilL c f (l ++ [x])=pilL c f l ++ [(zFp c f x).1]:=by
 rw [pilL,yQ,qB]
 simp [pilL,h]
theorem zKg {c:PChart} {f:List DShip} {l:List (List DPassage)} {x:List DPassage} (h:x.length=0):pilL c f (l ++ [x])=pilL c f l:=by
 rw [pilL,yQ,qB]
 simp [pilL,h]
theorem zKh {c:PChart} {f:List DShip} {l:List (List DPassage)}:(pilL c f l).length≤l.length:=by
 rw [pilL,jH];exact up _ _
theorem zKi (s:Sl (Sl DPassage)):jK s=s.l.map (·.l):=by
 show List.map _ _=_
 exact wb fun x _=>zFv x
theorem zKj {l:List (Sl DPassage)} {k:Nat} (a:k < l.length):(l.take (k+1)).map (·.l)=(l.take k).map (·.l) ++ [l[k].l]:=by rw [qw a,qB];rfl
theorem zKk {c:PChart} {f:List DShip} {l:List (List DPassage)} {x:List DPassage} (h:zJ9 c f l) (b:0 < x.length→(zFp c f x).2=true):zJ9 c f (l ++ [x]):=fun y a h0=>by
 rcases List.mem_append.1 a with a|a
 ·exact h y a h0
 ·rw [List.mem_singleton.1 a] at h0 ⊢;exact b h0
theorem zKl {c:PChart} {f:List DShip} {w:PCrew} {l:List (List DPassage)} {x:List DPassage} (a:x ∈ l) (h0:0 < x.length) (h:(zFp c f x).2=false):zKa w c f l=-1:=by
 rw [zKa,if_neg]
 rintro ⟨-,b,-⟩
 rw [b x a h0] at h;cases h
theorem zKm {l:List DPassage} {u:Value} (a:u ∈ l.flatMap qx):u.oneCell'=true:=by
 obtain ⟨x,_,a⟩:=List.mem_flatMap.1 a
 exact uD x u a
theorem zKn {a:Sl (Sl DPassage)} {B:Nat} (b:Sz.sz (jK a)≤B):(a.l.flatMap (·.l)).length≤B∧a.l.length≤B:=by
 have c:∀ l:List (Sl DPassage),(l.flatMap (·.l)).length+l.length≤((l.map fun x=>jK x).map Sz.sz).sum+(l.map fun x=>jK x).length:=fun l=>by
  induction l with
  | nil=>simp
  | cons x l d =>
   rw [wV,jP,wx,wx,List.sum_cons,qv,qv]
   have:x.l.length≤Sz.sz (jK x):=by
    rw [znL];have:(jK x).length=x.l.length:=jH ..;omega
   omega
 have e:=c a.l
 rw [znL] at b
 have:jK a=a.l.map fun x=>jK x:=rfl
 rw [this] at b
 omega
theorem zKo {c:DChart} {f:List DShip} {l:List (Sl DPassage)} {h:Hp} (a:jD h c) (b:∀ x ∈ l,x.Ok h):∀ d ∈ pilL (jK c) f (l.map (·.l)),jD h d:=fun d e=>by
 obtain ⟨y,g,rfl⟩:=List.mem_map.1 e
 obtain ⟨x,i,rfl⟩:=List.mem_map.1 (List.mem_filter.1 g).1
 have:=zFw (f:=f) (h2:=h) a (b x i)
 rwa [zFv] at this
theorem zKp (w:DCrew) (c:DChart) (f:Sl DShip) (a:Sl (Sl DPassage)) (h:Hp) (y:jD h w) (z:jD h c) (K:f.Ok h) (i:a.Ok h) (Z:a.l.length≤1048576):Ct jV 260 [w.v,c.v,f.val,a.val] h fun v h'=>v=.int .i64 (zKa (jK w) (jK c) f.l (a.l.map (·.l)))∧h'=h:=by
 have hl:=i.max
 refine Ct.forget ?_
 refine zdn (fun A W=>by simp) Tryz.func260 rfl rfl (by simp) fun W0=>?_
 repeat' first|refine Wa ?_|refine zhF (fun _=>zBT w _ y) ?_|(simp only [go_sem,jq,jj,jy,jv,jk,jx];try rfl)|refine Wb ?_|fail
 refine zc9 rfl (fun d=>?_) (fun d=>?_)
 ·rw [jd] at d
  rw [zKa,if_neg (fun H=>by rw [d] at H;cases H.1)]
  exact Wk0
 rw [jf] at d
 have q:=d
 refine Wk ?_
 refine zng (ι:=Nat) (fun k=>⟨[(2,true,.c (.v f.val)),(4,true,.c (.p 0 0)),(5,true,.c (.p 1 0)),(8,true,.c (.v (.int .i64 0))),(9,true,.c (.s 2)),(21,true,.c (.v a.val)),(22,true,.c (.v (.int .i64 a.l.length))),(23,true,.c (.v (.int .i64 k)))],[(0,.box 60 [.v (.int .i64 w.tugs),.v (.int .i64 w.pilots),.v (.int .i64 w.rest),.v w.moves.val]),(1,.box 57 [.v c.points.val,.v c.segments.val]),(2,.row 303 4 (pilL (jK c) f.l ((a.l.take k).map (·.l))).length ((pilL (jK c) f.l ((a.l.take k).map (·.l))).flatMap qx))],h,3⟩) (fun k=>k≤a.l.length∧zJ9 (jK c) f.l ((a.l.take k).map (·.l))) (fun k=>a.l.length - k) 0 ⟨jC _,fun x e=>by cases e⟩ [0,1,2] ?_ ?_
 ·refine Evs ?_
  exact Gk
 intro k r
 have D:=zKh (c:=jK c) (f:=f.l) (l:=(a.l.take k).map (·.l))
 rw [jH,ww] at D
 refine Wk ?_
 refine zc9 rfl (fun t=>?_) (fun t=>?_)
 ·have b:=zjH t
  have F:=i.el b
  repeat' first|refine Wa ?_|(simp only [go_sem,jq,jj,jy,jv,jk,jx,zkQ i b,i.some b,b,jW];try rfl)|refine Wb ?_|fail
  refine zc9 rfl (fun e=>?_) (fun e=>?_)
  ·have e:a.l[k].l.length=0:=by have:=eq_of_beq e;omega
   refine Wk ?_
   refine ⟨k+1,[0,1,2],⟨b,by rw [zKj b];exact zKk r.2 (fun h0=>by omega)⟩,by omega,?_⟩
   refine Evs ?_
   rw [zKj b,zKg e]
   exact Gi (zjA b (by omega))
  have e:0 < a.l[k].l.length:=by have:=ne_of_beq_false e;omega
  have u:a.l[k].l ∈ a.l.map (·.l):=uX (qd b)
  repeat' first|refine Wa ?_|refine zhF (fun _=>zFu c f a.l[k] _ z K F) ?_|(simp only [go_sem,jq,jj,jy,jv,jk,jx];try rfl)|refine Wb ?_|fail
  refine zc9 rfl (fun j=>?_) (fun j=>?_)
  ·rw [jd] at j
   rw [zKl u e j]
   exact Wk0
  rw [jf] at j
  refine Wk ?_
  refine ⟨by simp only [maxLen];omega,by omega,?_⟩
  refine Wk ?_
  refine ⟨k+1,[0,1,5],⟨b,by rw [zKj b];exact zKk r.2 (fun _=>j)⟩,by omega,?_⟩
  refine Evs ?_
  rw [zKj b,zKf e,jF,jP]
  exact Gi (zjA b (by omega))
 ·have R:=zjI t
  have o:k=a.l.length:=by omega
  have m:=r.2
  rw [o,qG] at m
  have M:(a.l.take k).map (·.l)=a.l.map (·.l):=by rw [o,qG]
  rw [M]
  refine zc6 ?_
  refine Evs ?_
  refine zl7 2 (pilL (jK c) f.l (a.l.map (·.l))) rfl rfl rfl rfl (by decide) (zKo z i.2.2.2.1) h (wW _) (Mines.flat (fun _=>rfl) (fun _=>trivial)) fun s h' N O Q e4=>?_
  have G:jD h' w:=jL Q y
  refine Wk ?_
  refine zkr (zJW w.rest w.moves s _ G.2.2.2 O) rfl ?_
  rintro v h2 X ⟨s2,rfl,e5,Y,m2⟩
  rw [N]
  by_cases g:(pilL (jK c) f.l (a.l.map (·.l))).length≤12
  ·have n:(zJK w.rest w.moves.l (pilL (jK c) f.l (a.l.map (·.l)))).2.2=true:=zJT (by rw [zJJ,zKe m g,← zJ7,(zJ6 q).2,show In w.rest 0 2880=true from (zJ6 q).1];rfl)
   rw [n]
   refine Wk ?_
   refine zc9 rfl (fun d=>?_) (fun d=>?_)
   ·cases d
   refine Wk ?_
   rw [zKa,if_pos ⟨q,m,g⟩,zJ7];rfl
  ·have J:zJK w.rest w.moves.l (pilL (jK c) f.l (a.l.map (·.l)))=([],0,false):=zJR (by rw [zJJ,zIs,decide_eq_false g];rfl)
   rw [J]
   refine Wk ?_
   refine zc9 rfl (fun d=>?_) (fun d=>?_)
   case refine_2=>cases d
   refine Wk ?_
   rw [zKa,if_neg (fun H=>g H.2.2)]
theorem zKq (w:DCrew) (c:DChart) (f:Sl DShip) (a:Sl (Sl DPassage)) (h:Hp) (G:jD h w) (H:jD h c) (J:f.Ok h) (e:a.Ok h) (Y:(a.l.flatMap (·.l)).length≤1048576) (r:a.l.length≤1048576):Ct jV 207 [w.v,c.v,f.val,a.val] h fun v h'=>v=.bool (zKb (jK w) (jK c) f.l (a.l.map (·.l)))∧h'=h:=by
 have Z:=e.max
 refine Ct.forget ?_
 refine zdn (fun A W=>by simp) Tryz.func207 rfl rfl (by simp) fun W0=>?_
 refine Wk ?_
 refine zng (ι:=Nat) (fun k=>⟨[(2,true,.c (.v f.val)),(3,true,.c (.v a.val)),(4,true,.c (.p 0 0)),(5,true,.c (.p 1 0)),(8,true,.c (.v (.bool false))),(9,true,.c (.s 2)),(13,true,.c (.v a.val)),(14,true,.c (.v (.int .i64 a.l.length))),(15,true,.c (.v (.int .i64 k)))],[(0,.box 60 [.v (.int .i64 w.tugs),.v (.int .i64 w.pilots),.v (.int .i64 w.rest),.v w.moves.val]),(1,.box 57 [.v c.points.val,.v c.segments.val]),(2,.row 222 5 ((a.l.take k).flatMap (·.l)).length (((a.l.take k).flatMap (·.l)).flatMap qx))],h,3⟩) (fun k=>k≤a.l.length) (fun k=>a.l.length - k) 0 (jC _) [0,1,2] ?_ ?_
 ·refine Evs ?_
  exact Gk
 intro k hk
 refine Wk ?_
 refine zc9 rfl (fun n=>?_) (fun n=>?_)
 ·have b:=zjH n
  have t:=e.el b
  have o:h.ldL a.l[k].val 5=some (a.l[k].l.flatMap qx):=Sl.Ok.all t (by decide)
  have d:(a.l.take (k+1)).flatMap (·.l)=(a.l.take k).flatMap (·.l) ++ a.l[k].l:=by rw [qw b,jF];simp
  have z:((a.l.take (k+1)).flatMap (·.l)).length≤(a.l.flatMap (·.l)).length:=by
   rw [← yk (k+1) a.l,jF,yk,jP];omega
  rw [d,jP] at z
  repeat' first|refine Wa ?_|(simp only [go_sem,jq,jj,jy,jv,jk,jx,zkQ e b,e.some b,b,jW];try rfl)|refine Wb ?_|fail
  simp only [o,jX,jc,← d,← jF,← jP]
  refine ⟨trivial,fun u K=>zKm K,by simp only [maxLen];rw [d,jP];omega,by rw [d,jP];omega,?_⟩
  refine Wk ?_
  refine ⟨k+1,[0,1,3],b,by omega,?_⟩
  refine Evs ?_
  exact Gi (zjA b (by omega))
 ·have X:=zjI n
  have D:k=a.l.length:=by omega
  have M:(a.l.take k).flatMap (·.l)=a.l.flatMap (·.l):=by rw [D,qG]
  have N:(a.l.map (·.l)).flatten=a.l.flatMap (·.l):=by rw [Jd]
  rw [M]
  refine zc6 ?_
  refine Evs ?_
  refine zl7 2 (a.l.flatMap (·.l)) rfl rfl rfl rfl (by decide) (fun x q=>?_) h (wW _) (Mines.flat (fun _=>rfl) (fun _=>trivial)) fun s h' O Q g e4=>?_
  ·obtain ⟨y,R,q⟩:=List.mem_flatMap.1 q
   exact (e.2.2.2.1 y R).2.2.2.1 x q
  have i:jD h' w:=jL g G
  have j:jD h' c:=jL g H
  have m:=J.mono g
  have F:=e.mono g
  refine Wk ?_
  refine zz5 rfl ?_
  refine U_t [0,1,2,3,5,6] rfl ?_
  refine Evs ?_
  refine U_1 4 0 [6,5] rfl rfl ?_
  refine Evs ?_
  refine zhF (fun _=>zJ8 w c f s _ i j m Q) ?_
  refine Evs ?_
  refine U_1 7 0 [] rfl rfl ?_
  refine Evs ?_
  refine zhF (fun _=>zAA _ _ _ _) ?_
  refine Evs ?_
  refine U_t [8,9,10,11,12,14,15] rfl ?_
  refine Evs ?_
  refine U_1 13 0 [15,14] rfl rfl ?_
  refine Evs ?_
  refine zhF (fun _=>zKp w c f a _ i j m F r) ?_
  refine Evs ?_
  refine U_1 16 0 [] rfl rfl ?_
  refine Evs ?_
  refine zhF (fun _=>zAA _ _ _ _) ?_
  refine Evs ?_
  refine U_t [17,18] rfl ?_
  refine Evs ?_
  refine U_d ?_
  refine Wk ?_
  rw [zKb,O,N]
  rfl
theorem zKr (w:DCrew) (c:DChart) (f:Sl DShip) (a:Sl (Sl DPassage)) (h:Hp) (d:jD h w) (e:jD h c) (g:f.Ok h) (i:a.Ok h) (j:Sz.sz (jK a)≤1048576):Ct jV 207 [w.v,c.v,f.val,a.val] h fun v h'=>v=.bool (zKb (jK w) (jK c) (jK f) (jK a))∧h'=h:=by
 have b:=zKn j
 rw [zBi,zKi];exact zKq w c f a h d e g i b.1 b.2
def zKs (c:PChart) (f:List DShip) (l:List DPassage):Prop:=0 < l.length∧zFf c l=true∧∀ i,i < l.length→pOk c f l i=true
theorem zKt {l:List Int} {x:Int} {i:Nat} (a:i < l.length):(l ++ [x]).getD i 0=l.getD i 0:=by rw [ja,wF a,← ja]
theorem zKu {l:List Int} {x:Int} {k:Nat} (h:l.length=k):(l ++ [x]).getD k 0=x:=by subst h;simp only [ja,List.getElem?_concat_length,jc]
theorem zKv {w:List Bool} {m:List Int} {u:List (List DWindow)} {st:Int}:∀ {k:Nat} {l:List Int},slK w m u st k=some l→∀ i,i < k→IntKind.i64.wrap (l.getD i 0+m.getD i 0)≤l.getD (i+1) 0
 | 0,_,_,i,b=>absurd b (qE i)
 | k+1,l,h,i,b=>by
  rw [slK] at h
  obtain ⟨p,c,h⟩:=Option.bind_eq_some_iff.1 h
  have d:=zGH c
  unfold zGC at h
  dsimp only at h
  split at h
  ·cases h
  ·rename_i f
   rw [not_or] at f
   have e:=Option.some.inj h
   rw [← e]
   rcases wv i k with a|a
   ·rw [zKt (by omega),zKt (by omega)]
    exact zKv c i a
   ·obtain rfl:i=k:=by omega
    rw [zKt (by omega),zKu d]
    exact zGA (by omega)
theorem zKw {g:List DSegment} {a:Int} {r:List Int}:∀ {k:Nat} {l:List Int},ptsK g a r k=some l→∀ i,i < k→l.getD (i+1) 0=zEf (g.getD (r.getD i 0).toNat dG) (l.getD i 0)∧0≤zEf (g.getD (r.getD i 0).toNat dG) (l.getD i 0)
 | 0,_,_,i,c=>absurd c (qE i)
 | k+1,l,h,i,c=>by
  obtain ⟨p,d,j⟩:=zEL h
  have f:=zEM d
  obtain ⟨_,h2,_,e⟩:=zEJ j
  rw [zEP f] at h2 e
  rw [e]
  rcases wv i k with b|b
  ·rw [zKt (by omega),zKt (by omega)]
   exact zKw d i b
  ·obtain rfl:i=k:=by omega
   rw [zKu f,zKt (by omega)]
   exact ⟨rfl,h2⟩
theorem zKx {s:DSegment} {p:Int} (h:0≤zEf s p):(p=s.a∧zEf s p=s.b)∨(p ≠ s.a∧p=s.b∧zEf s p=s.a):=by
 unfold zEf at h ⊢
 split at h
 ·rename_i c;exact .inl ⟨c,by rw [if_pos c]⟩
 ·rename_i c
  split at h
  ·rename_i h2;exact .inr ⟨c,h2,by rw [if_neg c,if_pos h2]⟩
  ·exact absurd h (by decide)
theorem zKy {c:PChart} {ship:Int} {s:DShip} {pts r st:List Int} {k i:Nat} (a:i < k):(pasL c ship s pts r st k).getD i dQ=zFz c ship s pts r st i:=by
 rw [pasL,ja,yC,List.getElem?_range a];rfl
theorem zKz {x:DHarbour} {a:DCall} {r:List Int} (d:zBZ (jK x) a=true) (t:cvOk (jK x) a r=true) {st:Int} (aa:a.ready≤st∧st≤a.due) (h2:(zGX (jK x) a r st).2=true):zKs (jK x.chart) x.fleet.l (zGX (jK x) a r st).1.pas:=by
 obtain ⟨_,m,⟨F,o,u⟩,G,H,_,_,_,_,_,ab,ac,ae,ag⟩:=zGQ d
 have J:zBB x.fleet.l=true:=by
  rw [zBZ,zBF,jJ,jJ,jJ,jJ,jJ,show (jK x).fleet=x.fleet.l from zBi _] at d
  exact d.1.1.1.2
 have p:voOk (jK x.forecast) (jK x.chart) (zGP (jK x) a) a.src r=true:=by
  rw [cvOk,jJ] at t;exact t.2
 have K:zEZ (jK x.chart) a.src r=true:=by
  rw [zGR d,jJ] at p;exact p.1
 have c:0 < r.length:=by
  rw [zGR d,jJ,JD] at p;exact p.2
 obtain ⟨_,ah,pl,y,e,W,M⟩:=zE3 K
 have N:r.length≤8:=by have:=zF4 m (zEN e) M;omega
 have f:∀ i,i < r.length→0≤r.getD i 0∧r.getD i 0 < (jK x.chart).segments.length:=fun i b=>by
  rw [iget b];exact zE4 e (qV _) i b b
 have O:∀ i,i < (minL (jK x.chart) (zGP (jK x) a) r r.length).length→1≤(minL (jK x.chart) (zGP (jK x) a) r r.length).getD i 0∧(minL (jK x.chart) (zGP (jK x) a) r r.length).getD i 0≤480:=fun i b=>by
  rw [minL,rmap_len] at b
  rw [zHF b]
  exact zHx (zHy m (by have:=f i b;omega))
 have ai:(minL (jK x.chart) (zGP (jK x) a) r r.length).length=r.length:=by rw [minL,rmap_len]
 unfold zGX at h2 ⊢
 rw [show (jK x).forecast=jK x.forecast from rfl,show (jK x).chart=jK x.chart from rfl] at h2 ⊢
 cases z:zGN (jK x.forecast) (jK x.chart) (zGP (jK x) a) a.src r st with
 | none=>rw [z] at h2;cases h2
 | some l =>
  rw [z] at h2
  dsimp only at h2 ⊢
  have n:=z
  rw [zGN,if_pos p,zGD] at n
  split at n
  ·rw [show (zGx (jK x.forecast) (jK x.chart) (zGP (jK x) a) r r.length).length=r.length by rw [zGx,rmap_len]] at n
   obtain ⟨h4,q,h6⟩:=zHC (by omega) O (by omega) n
   have Q:arOk (jK x.chart) (zGP (jK x) a) r l=true:=by
    rw [arOk,jJ,jJ,jJ,jd,JH,JD,JD,o]
    refine ⟨⟨⟨?_,u⟩,c⟩,by omega⟩
    rw [zFa,if_pos ⟨m,fun i b=>by
     rw [rmOk,JD];exact f i b⟩]
    have:=zHG m (fun i b=>zE4 e (qV _) i b b) N (k:=r.length) (qV _)
    rw [qG] at this
    omega
   have X:zFx (jK x.chart) (zGP (jK x) a) r l=IntKind.i64.wrap (l.getD (r.length - 1) 0+zCa (zGP (jK x) a) ((jK x.chart).segments.getD (r.getD (r.length - 1) 0).toNat dG)):=by
    have Y:=q (r.length - 1) (qV _)
    rw [zFx,if_pos Q,if_pos (by rw [In,jJ,JD,JD];exact Y)]
   have w:zFx (jK x.chart) (zGP (jK x) a) r l≤2880:=JE h2
   have j:∀ i,i+1 < r.length→IntKind.i64.wrap (l.getD i 0+zCa (zGP (jK x) a) ((jK x.chart).segments.getD (r.getD i 0).toNat dG))≤l.getD (i+1) 0:=fun i b=>by
    have:=zKv n i (by omega)
    rwa [zHF (by omega)] at this
   have D:∀ i,i < r.length→IntKind.i64.wrap (l.getD i 0+zCa (zGP (jK x) a) ((jK x.chart).segments.getD (r.getD i 0).toNat dG))≤2880:=fun i b=>by
    rcases wv (i+1) r.length with R|R
    ·have:=j i R
     have:=q (i+1) (by omega)
     omega
    ·obtain rfl:i=r.length - 1:=by omega
     rw [X] at w;exact w
   show zKs _ _ (zFB (jK x.chart) a.ship (zGP (jK x) a) a.src r l)
   have Z:zFB (jK x.chart) a.ship (zGP (jK x) a) a.src r l=pasL (jK x.chart) a.ship (zGP (jK x) a) pl r l r.length:=by
    rw [zFB,if_pos,y]
    ·rfl
    ·refine ⟨?_,fun i b=>?_⟩
     ·rw [zFA,jJ,jJ,JD,o]
      exact ⟨⟨K,u⟩,by omega⟩
     ·rw [In,jJ,JD,JD];exact q i (by omega)
   rw [Z]
   refine ⟨by rw [zFE];exact c,?_,fun i b=>?_⟩
   ·rw [zFf,jJ,JD]
    refine ⟨m,fun i b=>?_⟩
    rw [zFE] at b
    rw [chOk,chIn,chTo,zKy b,zKy c,zKy (show i - 1 < r.length by omega)]
    simp only [jJ,jQ,JD]
    refine ⟨⟨rfl,f i b⟩,?_⟩
    rcases we i with h0|h0
    ·exact .inl h0
    ·refine .inr ⟨?_,?_⟩
     ·have e1:=zKw e i b
      have s:=zKw e (i - 1) (by omega)
      rw [show i - 1+1=i by omega] at s
      have g:=zKx e1.2
      have h:=zKx s.2
      show (if (pl.getD i 0 == ((jK x.chart).segments.getD (r.getD i 0).toNat dG).a)=true then _ else _:Int × Int).1=(if (pl.getD (i - 1) 0 == ((jK x.chart).segments.getD (r.getD (i - 1) 0).toNat dG).a)=true then _ else _:Int × Int).2
      have g1:(zB9 (jK x.chart) (zFz (jK x.chart) a.ship (zGP (jK x) a) pl r l i)).1=pl.getD i 0:=by
       unfold zB9 zFz
       dsimp only
       rcases g with g|g
       ·rw [if_pos (by rw [beq_iff_eq];exact g.1)];exact g.1.symm
       ·rw [if_neg (by rw [beq_iff_eq];exact g.1)];exact g.2.1.symm
      have g2:(zB9 (jK x.chart) (zFz (jK x.chart) a.ship (zGP (jK x) a) pl r l (i - 1))).2=pl.getD i 0:=by
       unfold zB9 zFz
       dsimp only
       rcases h with h|h
       ·rw [if_pos (by rw [beq_iff_eq];exact h.1)];rw [s.1,h.2]
       ·rw [if_neg (by rw [beq_iff_eq];exact h.1)];rw [s.1,h.2.2]
      exact g1.trans g2.symm
     ·have:=j (i - 1) (by omega)
      rw [show i - 1+1=i by omega] at this
      exact this
   ·rw [zFE] at b
    rw [pOk,zKy b,zCc,m,J,qp,qp,zCb,jJ,JD,JD]
    refine ⟨⟨G,H,(f i b).1,(f i b).2,(q i (by omega)).1,(q i (by omega)).2,D i b⟩,?_⟩
    show IntKind.i64.wrap (_+zCa (zGP (jK x) a) _)=IntKind.i64.wrap (_+zCa (x.fleet.l.getD a.ship.toNat dH) _)
    rw [o,hget F]
    rfl
  ·cases n
theorem zKA {x:DHarbour} {a:DCall}:∀ y ∈ zHa (jK x) a,zKs (jK x.chart) x.fleet.l y.pas:=by
 cases b:zBZ (jK x) a with
 | false=>rw [zHe b];intro y c;cases c
 | true =>
  rw [zHa,if_pos b]
  obtain ⟨_,_,_,_,_,_,_,_,_,_,d,i,j,e⟩:=zGQ b
  cases f:zGl (jK x).chart a.src a.dst with
  | none=>intro y c;cases c
  | some r =>
   dsimp only
   exact zHE d e (fun s g h2 h=>zKz b (zHd b f) ⟨g,h2⟩ h) (qF _) (fun y c=>by cases c)
def Sel (n:Nat) (l:List Int):Prop:=∀ i,i < l.length→0≤l.getD i 0∧l.getD i 0 < n∧(0 < i→l.getD (i - 1) 0 < l.getD i 0)
instance (n:Nat) (l:List Int):Decidable (Sel n l):=inferInstanceAs (Decidable (∀ i,i < l.length→_))
def zKB (l:List POption):List (List DPassage):=l.map (·.pas)
theorem zKC (a:Sl DOption):zKB (jK a)=a.l.map (fun o=>o.pas.l):=by
 rw [zKB,zkz,yj]
 exact wb fun o _=>zAE o.pas
theorem zKD (s:Sl (Sl DPassage)):jK s=s.l.map (·.l):=wb fun x _=>zAE x
theorem zKE (a:Sl DOption) (h:Hp) (M:a.Ok h) (N:Sz.sz (jK a)≤1048576):Ct jV 208 [a.val] h fun v h'=>∃ s:Sl (Sl DPassage),v=s.val∧jK s=zKB (jK a)∧s.Ok h'∧Mine h h' s:=by
 have hl:=M.max
 have O:=znM N
 rw [znP] at O
 have Q:∀ k (p:k < a.l.length),a.l[k].pas.l.length≤1048576:=fun k p=>by
  have n:Sz.sz (jK a.l[k])≤1048576:=znN N (by rw [zkz];exact uX (qd p))
  have h2:Sz.sz (jK a.l[k])=Sz.sz (jK a.l[k].pas):=rfl
  rw [h2] at n
  have:=znM n
  rwa [znP] at this
 rw [zKC]
 refine zdn (fun A W=>by simp) Tryz.func208 rfl rfl (by simp) fun W0=>?_
 refine Wk ?_
 refine zng (ι:=Nat × List (Sl DPassage) × Hp) (fun i=>⟨[(3,true,.c (.s 0)),(7,true,.c (.v a.val)),(8,true,.c (.v (.int .i64 a.l.length))),(9,true,.c (.v (.int .i64 i.1)))],[(0,.row 82 1 i.1 (i.2.1.flatMap qx))],i.2.2,1⟩) (fun i=>i.1≤a.l.length∧i.2.1.length=i.1∧i.2.1.map (·.l)=(a.l.take i.1).map (fun o=>o.pas.l)∧(∀ d ∈ i.2.1,jD i.2.2 d)∧h.le i.2.2∧Mines h i.2.2 i.2.1) (fun i=>a.l.length - i.1) (0,[],h) ⟨jC _,rfl,rfl,fun _ h=>(by cases h),wW _,Mines.nil⟩ [0] ?_ ?_
 ·refine Evs ?_
  exact Gk
 rintro ⟨k,R,p⟩ ⟨X,D,F,w,f,q⟩
 simp only at X D F w f q
 have r:=M.mono f
 refine Wk ?_
 refine zc9 rfl (fun G=>?_) (fun G=>?_)
 ·have b:=zjH G
  have H:=(r.el b).2.2.2
  have m:=H.all (by decide)
  have m:p.ldL a.l[k].pas.val 5=some (a.l[k].pas.l.flatMap qx):=m
  refine zc5 ?_
  refine Evs ?_
  refine zc3 ?_
  refine zc8 ?_
  refine zie rfl ?_
  simp only [go_sem,jq,jj,jy,jv,jk,jx,zkZ r b,r.some b,b,jW]
  refine zlT [0,0,0,0,2] rfl ?_
  simp only [go_sem,jq,jj,jy,jv,jk,jx,m,jX,jc]
  have aa:=Q k b
  refine ⟨fun u hu=>by obtain ⟨x,_,e⟩:=List.mem_flatMap.1 hu;exact uD x u e,by simp only [maxLen];omega,by omega,?_⟩
  intro y cap n g
  rw [jb] at g ⊢
  have z:(Sl.mk y cap a.l[k].pas.l).Ok n:=g.sl (by decide) (fun x e=>H.2.2.2.1 x e)
  have J:Mine p n (Sl.mk y cap a.l[k].pas.l):=g.mine (wW _) (fun x e=>H.2.2.2.1 x e) (Mines.flat (fun _=>rfl) (fun _=>trivial))
  have j:=g.le
  obtain ⟨d,t⟩:∃ d:Sl DPassage,d=Sl.mk y cap a.l[k].pas.l:=⟨_,rfl⟩
  have K:d.l=a.l[k].pas.l:=by rw [t]
  rw [← t] at z J
  have hv:Value.slice y a.l[k].pas.l.length cap=d.val:=by rw [t];rfl
  rw [hv]
  refine ⟨by simp only [maxLen];omega,by omega,?_⟩
  refine Wk ?_
  refine ⟨(k+1,R ++ [d],n),[5],⟨b,by simp [D],by rw [qB,F,znH b,← K];rfl,fun x e=>?_,jB f j,q.snoc w j f J⟩,by simp only;omega,?_⟩
  ·rcases List.mem_append.1 e with e|e
   ·exact jL j (w x e)
   ·rw [List.mem_singleton.1 e];exact z
  refine Evs ?_
  refine ⟨zjB (zjA b (by omega)),?_,jB f j,rfl⟩
  rw [jF]
  rfl
 ·have Y:=zjI G
  have Z:k=a.l.length:=wE X Y
  refine zc6 ?_
  refine Evs ?_
  refine zl7 0 R rfl rfl D.symm rfl (by decide) w h f q fun s h' K z J e4=>?_
  refine Wk ?_
  exact ⟨s,rfl,by rw [zKD,K,F,Z,qG],z,e4⟩
theorem zKF (a:List POption) (b:Sz.sz a≤1048576):Sz.sz (zKB a)≤1048576:=by
 have:Sz.sz (zKB a)=Sz.sz a:=by
  rw [zKB,znL,znL,jH,yj]
  rfl
 rw [this];exact b
def zKG (n:Nat) (m:List Int):Prop:=m.length=n∧(∀ i (hi:i < m.length),0≤m[i]∧m[i] < m.length)∧∀ i (hi:i < m.length),m.getD m[i].toNat 0=(i:Int)
noncomputable instance (n:Nat) (m:List Int):Decidable (zKG n m):=Classical.propDecidable _
def flr (l:List POption):Int:=if zAL l < 0 then -1 else (l.getD (zAL l).toNat zGU).cost
def zKH (x:PHarbour) (calls:List DCall):List (List POption):=calls.map (zHa x)
theorem zKI {L:Sl (Sl DOption)} {i:Nat} (a:i < L.l.length):(L.l.map fun s=>s.l.map (jK (α:=DOption))).getD i []=L.l[i].l.map jK:=by
 simp [ja,a]
theorem zKJ (x:DHarbour) (a:Sl DCall) (h:Hp) (H:jD h x) (u:a.Ok h) (X:a.l.length≤1048576):Ct jV 106 [x.v,a.val] h fun v h'=>∃ s:Sl (Sl DOption),v=s.val∧s.l.map (fun l=>l.l.map (jK (α:=DOption)))=zKH (jK x) a.l∧s.Ok h'∧Mine h h' s:=by
 have Y:=u.max
 refine zdn (fun A W=>by simp) Tryz.func106 rfl rfl (by simp) fun W0=>?_
 refine Wk ?_
 refine zng (ι:=Nat × List (Sl DOption) × Hp) (fun i=>⟨[(2,true,.c (.p 0 0)),(4,true,.c (.v (.slice none 0 0))),(5,true,.c (.s 1)),(9,true,.c (.v a.val)),(10,true,.c (.v (.int .i64 a.l.length))),(11,true,.c (.v (.int .i64 i.1)))],[(0,.box 62 [.v (.int .i64 x.forecast.tide.mean),.v x.forecast.tide.parts.val,.v x.forecast.surges.val,.v x.chart.points.val,.v x.chart.segments.val,.v x.fleet.val,.v (.int .i64 x.regime.gap),.v (.bool x.regime.noMeet),.v (.int .i64 x.crew.tugs),.v (.int .i64 x.crew.pilots),.v (.int .i64 x.crew.rest),.v x.crew.moves.val]),(1,.row 93 1 i.2.1.length (i.2.1.flatMap qx))],i.2.2,2⟩) (fun i=>i.1≤a.l.length∧i.2.1.length=i.1∧i.2.1.map (fun l=>l.l.map (jK (α:=DOption)))=(a.l.take i.1).map (zHa (jK x))∧(∀ y ∈ i.2.1,jD i.2.2 y)∧Mines h i.2.2 i.2.1∧h.le i.2.2) (fun i=>a.l.length - i.1) (0,[],h) ⟨jC _,rfl,rfl,fun y f=>(by cases f),Mines.nil,wW _⟩ [0,1] ?_ ?_
 ·refine Evs ?_
  exact Gk
 rintro ⟨k,acc,J⟩ ⟨w,o,j,b,g,e⟩
 simp only at w o j b g e
 have m:=u.mono e
 have D:jD J x:=jL e H
 refine Wk ?_
 refine zc9 rfl (fun r=>?_) (fun r=>?_)
 ·have d:=zjH r
  repeat' first|refine Wa ?_|(simp only [go_sem,jq,jj,jy,jv,jk,jx,zkT m d,m.some d,d,jW];try rfl)|refine Wb ?_|fail
  refine zkr (zHl x a.l[k] _ D (m.el d)) rfl ?_
  rintro v h2 n ⟨s,rfl,K,F,M⟩
  refine Wk ?_
  refine ⟨by simp only [maxLen];omega,by omega,?_⟩
  refine Wk ?_
  have t:=jB e n
  have N:IntKind.i64.wrap ((k:Int)+1)=((k+1:Nat):Int):=zjA d (by omega)
  refine ⟨(k+1,acc ++ [s],h2),[0,4],⟨d,?_,?_,fun y f=>?_,Mines.snoc g b n e M,t⟩,by simp only;omega,?_⟩
  ·show (acc ++ [s]).length=k+1
   rw [jP,o];rfl
  ·show (acc ++ [s]).map _=(a.l.take (k+1)).map _
   rw [qB,j,qw d,qB]
   congr 1
   exact congrArg (fun z=>[z]) K
  ·rcases List.mem_append.1 f with f|f
   ·exact jL n (b y f)
   ·rw [List.mem_singleton.1 f];exact F
  refine Evs ?_
  rw [N]
  simp only [jF,jP]
  exact Gk
 ·have G:=zjI r
  refine zc6 ?_
  refine Evs ?_
  refine zl7 1 acc rfl rfl rfl rfl (by decide) b h e g fun q h' O Q Z R=>?_
  refine Wk ?_
  refine ⟨q,rfl,?_,Q,R⟩
  rw [O,j,qy G];rfl
theorem zKK {x:PHarbour} {l:List DCall} {i:Nat} (a:i < l.length):(zKH x l).getD i []=zHa x l[i]:=by
 rw [zKH,ja,yC,qX a];rfl
theorem zKL {x:PHarbour} {l:List DCall}:(zKH x l).length=l.length:=jH ..
theorem zKM {x:PHarbour} {l:List DCall} (h:zB5 x l=true):l.length≤6:=by
 simp only [zB5,jJ,JD] at h
 exact h.1.2
theorem zKN {P:Nat→Prop} (h:∃ n,P n):∃ n,P n∧∀ m,P m→n≤m:=by
 classical
 obtain ⟨n,d⟩:=h
 induction n using JP with
 | _ n e =>
  by_cases b:∃ m,m < n∧P m
  ·obtain ⟨m,a,f⟩:=b;exact e m a f
  ·exact ⟨n,d,fun m a=>Nat.le_of_not_lt fun c=>b ⟨m,c,a⟩⟩
theorem zKO {both:Nat→Nat→Bool} {n:Nat}:∃ w k,zJI both n=some (w,k)∧CovOn both (fun i=>i < n) k∧(∀ j,CovOn both (fun i=>i < n) j→k≤j)∧k≤n:=by
 obtain ⟨k,b,h2⟩:=zKN (P:=fun k=>CovOn both (fun i=>i < n) k) ⟨n,CovOn.id fun i a=>a⟩
 obtain ⟨w,d⟩:=Option.isSome_iff_exists.1 (zJL.2 b)
 have c:k≤n:=h2 n (CovOn.id fun i a=>a)
 refine ⟨w,k,zJM (fun j f=>?_) d c,b,h2,c⟩
 cases e:zEt both j n [] with
 | none=>rfl
 | some w' =>
  have:=h2 j (zJL.1 (by rw [e];rfl))
  omega
theorem zKP {p:Int} {m:List Int} {l:List DDuty} (h:zJJ p m l=true):0≤(zJK p m l).2.1∧(zJK p m l).2.1≤l.length∧∀ k:Int,(zJK p m l).2.1≤k ↔ 0≤k∧CovOn (zJH p m l) (fun i=>i < l.length) k.toNat:=by
 obtain ⟨w,n,b,h2,c,d⟩:=zKO (both:=zJH p m l) (n:=l.length)
 rw [zJS h b]
 refine ⟨jY _,by simp only;omega,fun k=>⟨fun a=>?_,fun a=>?_⟩⟩
 ·simp only at a
  exact ⟨by omega,h2.mono (by omega)⟩
 ·have:=c _ a.2
  simp only;omega
def zKQ (p:Int) (m:List Int) (l:List DDuty) (k:Int):Bool:=decide ((l.length:Int)≤k) || decide ((zJK p m l).2.1≤k)
theorem zKR {p:Int} {m:List Int} {l:List DDuty} {k:Int} (h:zJJ p m l=true):zKQ p m l k=In (zJK p m l).2.1 0 k:=by
 obtain ⟨a,h2,_⟩:=zKP h
 rw [zKQ,In,yq]
 simp only [jQ,jJ,JD]
 omega
theorem zKS {l a:List DDuty} (h:zIs (l ++ a)=true):zIs l=true:=by
 rw [zIs,jJ,JD,wY] at h ⊢
 rw [jP] at h
 exact ⟨by omega,fun x b=>h.2 x (yy _ b)⟩
theorem zKT {p:Int} {m:List Int} {l a:List DDuty} {k:Int} (b:In p 0 2880=true) (c:zBD m=true) (d:zIs (l ++ a)=true) (h:zKQ p m (l ++ a) k=true):zKQ p m l k=true:=by
 have e:zJJ p m (l ++ a)=true:=by rw [zJJ,d,b,c];rfl
 have f:zJJ p m l=true:=by rw [zJJ,zKS d,b,c];rfl
 rw [zKR e,In,jJ,JD,JD] at h
 obtain ⟨y,z,q⟩:=zKP e
 obtain ⟨r,D,s⟩:=zKP f
 obtain ⟨h0,g,t,u⟩:=(q k).1 h.2
 rw [zKR f,In,jJ,JD,JD]
 refine ⟨r,(s k).2 ⟨h0,g,fun i n=>t i (by rw [jP];omega),fun i j n w o x=>?_⟩⟩
 have:=u i j (by rw [jP];omega) (by rw [jP];omega) o x
 rw [zJH] at this ⊢
 rw [ja,ja,wF n,wF w] at this
 rw [ja,ja];exact this
def pilD (c:PChart) (l:List POption):List DDuty:=(l.filter fun o=>decide (0 < o.pas.length)).map fun o=>zFo c (o.pas.getD 0 dQ) (o.pas.getD (o.pas.length - 1) dQ)
def zKU (x:PHarbour) (l:List POption):Bool:=match zHK x.chart x.fleet (l.flatMap (·.pas)) with
 | none=>false
 | some d=>zKQ 0 x.crew.moves d x.crew.tugs && zKQ x.crew.rest x.crew.moves (pilD x.chart l) x.crew.pilots
theorem zKV {c:PChart} {f:List DShip}:∀ {l:List POption},(∀ o ∈ l,zKs c f o.pas)→pilL c f (l.map (·.pas))=pilD c l
 | [],_=>rfl
 | o :: l,h=>by
  obtain ⟨a,h2,d⟩:=h o (qC ..)
  have b:=zKV (l:=l) fun y e=>h y (qg _ e)
  rw [pilL,pilD] at b ⊢
  rw [wx,uc (by simpa using a),uc (by simpa using a),wx,wx,b,zFr a h2 d]
theorem zKW {c:PChart} {f:List DShip} {l:List POption} (h:∀ o ∈ l,zKs c f o.pas):zJ9 c f (l.map (·.pas)):=fun x a _=>by
 obtain ⟨o,b,rfl⟩:=List.mem_map.1 a
 obtain ⟨d,h2,e⟩:=h o b
 rw [zFr d h2 e]
theorem zKX {c:PChart} {l:List POption}:(pilD c l).length≤l.length:=by
 rw [pilD,jH];exact up _ _
theorem zKY {c:PChart} {f:List DShip} {l:List POption} (h:∀ o ∈ l,zKs c f o.pas) (a:l.length≤12):zIs (pilD c l)=true:=by
 rw [← zKV h]
 refine zKe (zKW h) ?_
 rw [zKV h]
 exact wK zKX a
theorem zKZ {x:PHarbour} {l:List POption} (b:zBE x.crew=true) (h:∀ o ∈ l,zKs x.chart x.fleet o.pas) (a:l.length≤12):zKb x.crew x.chart x.fleet (l.map (·.pas))=zKU x l:=by
 obtain ⟨i,c⟩:=zJ6 b
 have e:(l.map (·.pas)).flatten=l.flatMap (·.pas):=(Jd ..).symm
 have j:=zKY h a
 have f:zJJ x.crew.rest x.crew.moves (pilD x.chart l)=true:=by rw [zJJ,j,i,c];rfl
 rw [zKb,zKU,e,zJ5]
 cases k:zHK x.chart x.fleet (l.flatMap (·.pas)) with
 | none=>simp [In]
 | some d =>
  have g:zJJ 0 x.crew.moves d=true:=by rw [zJJ,zJ4 k,c];rfl
  simp only
  rw [if_pos b,zKR g,zKR f,zKa,if_pos ⟨b,zKW h,by rw [zKV h];exact wK zKX a⟩,zKV h]
theorem zK0 {x:PHarbour} (a:zBE x.crew=true):zKU x []=true:=by
 have h:zHK x.chart x.fleet []=some []:=by
  rw [zHK,if_pos ⟨fun i b=>absurd b (qE _),jC _⟩];rfl
 rw [zBE] at a
 simp only [In,jJ,JD] at a
 rw [zKU,show ([]:List POption).flatMap (·.pas)=[] from rfl,h]
 simp only [zKQ,jJ,jQ,JD]
 exact ⟨.inl (by simp only [qY];omega),.inl (by show (([]:List DDuty).length:Int)≤_;simp only [qY];omega)⟩
theorem zK1 {x:PHarbour} {l a:List POption} (p:zBE x.crew=true) (q:∀ o ∈ l ++ a,zKs x.chart x.fleet o.pas) (j:(l ++ a).length≤12) (h:zKU x (l ++ a)=true):zKU x l=true:=by
 obtain ⟨r,k⟩:=zJ6 p
 have m:=zKY q j
 rw [zKU] at h ⊢
 cases b:zHK x.chart x.fleet ((l ++ a).flatMap (·.pas)) with
 | none=>rw [b] at h;cases h
 | some d =>
  rw [b] at h
  have c:=zJ4 b
  simp only [jJ] at h
  rw [zHK] at b
  split at b
  ·rename_i s
   obtain ⟨f,e⟩:=s
   obtain rfl:=Option.some.inj b
   rw [jF] at f e c h
   rw [show tugL x.chart x.fleet (l.flatMap (·.pas) ++ a.flatMap (·.pas))=tugL x.chart x.fleet (l.flatMap (·.pas)) ++ tugL x.chart x.fleet (a.flatMap (·.pas)) from jF] at e c h
   have t:zHK x.chart x.fleet (l.flatMap (·.pas))=some (tugL x.chart x.fleet (l.flatMap (·.pas))):=by
    have g:∀ i,i < (l.flatMap (·.pas)).length→pOk x.chart x.fleet (l.flatMap (·.pas)) i=true:=fun i u=>by
     have:=f i (by rw [jP];omega)
     rw [pOk,ja,wF u] at this
     rw [pOk,ja];exact this
    rw [zHK,if_pos ⟨g,by rw [jP] at e;omega⟩]
   rw [t]
   simp only [jJ]
   have n:pilD x.chart (l ++ a)=pilD x.chart l ++ pilD x.chart a:=by rw [pilD,yQ,qB];rfl
   rw [n] at m h
   exact ⟨zKT (by decide) k c h.1,zKT r k m h.2⟩
  ·cases b
theorem zK2 (p q:DPassage):Ov p q=Ov q p:=by rw [Ov,Ov,Int.max_comm,Int.min_comm]
theorem zK3 (a b g:Int):zCo a b g=zCo b a g:=by rw [zCo,zCo,Int.max_comm,Int.min_comm]
theorem zK4 (c:PChart) (r:DRegime) (p q:DPassage):zCp c r p q=zCp c r q p:=by
 by_cases a:p.seg=q.seg∧0≤p.seg∧p.seg < c.segments.length
 ·have b:q.seg=p.seg∧0≤q.seg∧q.seg < c.segments.length:=⟨a.1.symm,by rw [← a.1];exact a.2⟩
  rw [zCp,zCp,if_neg (not_not_intro a),if_neg (not_not_intro b),zK2 q p,zK3 q.start,zK3 q.fin,a.1]
  by_cases d:p.ship=q.ship
  ·rw [if_pos d,if_pos d.symm]
  ·rw [if_neg d,if_neg (Ne.symm d)]
   by_cases e:p.toward=q.toward
   ·rw [if_neg (not_not_intro e),if_neg (not_not_intro e.symm)]
    split
    ·rfl
    ·by_cases f:(p.start < q.start∧q.fin < p.fin)∨(q.start < p.start∧p.fin < q.fin)
     ·rw [if_pos f,if_pos f.symm]
     ·rw [if_neg f,if_neg fun h=>f h.symm]
   ·rw [if_pos e,if_pos (Ne.symm e)]
 ·have b:¬ (q.seg=p.seg∧0≤q.seg∧q.seg < c.segments.length):=fun h=>a ⟨h.1.symm,by rw [← h.1];exact h.2⟩
  rw [zCp,zCp,if_pos a,if_pos b]
theorem zK5 (c:PChart) (r:DRegime) (a b:List DPassage):zCq c r a b=zCq c r b a:=by
 rw [yq]
 simp only [zCq,List.any_eq_true,JD]
 constructor
 ·rintro ⟨p,d,q,e,h⟩;exact ⟨q,e,p,d,by rw [zK4];exact h⟩
 ·rintro ⟨p,d,q,e,h⟩;exact ⟨q,e,p,d,by rw [zK4];exact h⟩
def zK6 (x:PHarbour) (l:List POption) (o:POption):Bool:=!(l.any fun p=>zCq x.chart x.regime p.pas o.pas)
def zK7 (x:PHarbour) (l:List POption) (o:POption):Bool:=zK6 x l o && zKU x (l ++ [o])
theorem zK8 {x:PHarbour} {a:List DCall} (h:zB5 x a=true):zBE x.crew=true:=by
 rw [zB5,zBF,jJ,jJ,jJ] at h
 exact h.1.1.2
theorem zK9 (p:Int) (m:Sl Int) (d:Sl DDuty) (k:Int) (h:Hp) (c:m.Ok h) (b:d.Ok h):Ct jV 263 [.int .i64 p,m.val,d.val,.int .i64 k] h fun v h'=>v=.bool (zKQ p m.l d.l k)∧h'=h:=by
 have g:=b.max
 refine Ct.forget ?_
 refine zdn (fun A W=>by simp) Tryz.func263 rfl rfl (by simp) fun W0=>?_
 refine Wk ?_
 refine zc9 rfl (fun a=>?_) (fun a=>?_)
 ·refine Wk ?_
  rw [zKQ,JG (JE a)];rfl
 ·refine Wk ?_
  refine zkr (zJX p m d _ c b) rfl ?_
  rintro v h2 e ⟨i,rfl,j,f,n⟩
  refine Wk ?_
  rw [zKQ,decide_eq_false (p:=(d.l.length:Int)≤k) (JF a),wa];rfl
theorem zLa (a:Sl DOption) (h:Hp) (c:a.Ok h) (j:a.l.length≤1048576):Ct jV 210 [a.val] h fun v h'=>∃ s:Sl DOption,v=s.val∧s.l=a.l∧RowAt 84 h' s∧∀ g,s.a=some ⟨g,0,none⟩→h g=none:=by
 have b:=c.all (by decide)
 have k:(h.ldL a.val 4).isSome=true:=by rw [show h.ldL a.val 4=_ from b];rfl
 refine zdn (fun A W=>by simp) Tryz.func210 rfl rfl (by simp) fun W0=>?_
 repeat' first|refine Wa ?_|(simp only [go_sem,jq,jj,jy,jv,jk,jx,b,show h.ldL a.val 4=some (a.l.flatMap qx) from b,jX,jc];try rfl)|refine Wb ?_|fail
 refine ⟨by simp only [maxLen];omega,by omega,?_⟩
 repeat' first|refine Wa ?_|(simp only [go_sem,jq,jj,jy,jv,jk,jx,b,show h.ldL a.val 4=some (a.l.flatMap qx) from b,jX,jc];try rfl)|refine Wb ?_|fail
 refine ⟨fun u d=>by obtain ⟨x,_,e⟩:=List.mem_flatMap.1 d;exact uD x u e,by simp only [maxLen];omega,by omega,?_⟩
 refine zD5 1 a.l rfl rfl (jb _) rfl fun s h' f R i m n=>?_
 refine Wk ?_
 exact ⟨s,rfl,f,R,i⟩
theorem zLb {l:List DOption}:(l.map (jK (α:=DOption))).flatMap (·.pas)=l.flatMap (·.pas.l):=by
 rw [List.flatMap_map,Jd,Jd]
 exact congrArg List.flatten (wb fun o _=>zFv _)
theorem zLc {o:DOption}:(jK o).pas=o.pas.l:=zFv _
theorem zLd {c:PChart} {l:List POption} {o:POption} (h:0 < o.pas.length):pilD c (l ++ [o])=pilD c l ++ [zFo c (o.pas.getD 0 dQ) (o.pas.getD (o.pas.length - 1) dQ)]:=by
 rw [pilD,yQ,qB]
 simp [pilD,h]
theorem zLe {c:DChart} {l:List DOption} {h:Hp} {f:List DShip} (b:jD h c) (e:∀ o ∈ l,jD h o) (g:∀ o ∈ l,zKs (jK c) f o.pas.l):∀ d ∈ pilD (jK c) (l.map jK),jD h d:=fun d i=>by
 obtain ⟨y,j,rfl⟩:=List.mem_map.1 i
 obtain ⟨o,a,rfl⟩:=List.mem_map.1 (List.mem_filter.1 j).1
 obtain ⟨k,h2,m⟩:=g o a
 have:=zFw (f:=f) (h2:=h) b (e o a).2.2.2
 rw [zFv,zFr k h2 m] at this
 rw [zLc]
 exact this
set_option maxRecDepth 30000 in
theorem zLf (x:DHarbour) (a:Sl DOption) (h:Hp) (Q:jD h x) (i:a.Ok h) (R:∀ o ∈ a.l,zKs (jK x.chart) x.fleet.l o.pas.l) (X:(a.l.flatMap (·.pas.l)).length≤1048576) (ak:a.l.length≤1048576):Ct jV 209 [x.v,a.val] h fun v h'=>v=.bool (zKU (jK x) (a.l.map jK))∧h'=h:=by
 have hl:=i.max
 refine Ct.forget ?_
 refine zdn (fun A W=>by simp) Tryz.func209 rfl rfl (by simp) fun W0=>?_
 refine Wk ?_
 refine zng (ι:=Nat) (fun k=>⟨[(2,true,.c (.p 0 0)),(4,true,.c (.v (.bool false))),(5,true,.c (.s 1)),(6,true,.c (.s 2)),(13,true,.c (.v a.val)),(14,true,.c (.v (.int .i64 a.l.length))),(15,true,.c (.v (.int .i64 k)))],[(0,.box 62 [.v (.int .i64 x.forecast.tide.mean),.v x.forecast.tide.parts.val,.v x.forecast.surges.val,.v x.chart.points.val,.v x.chart.segments.val,.v x.fleet.val,.v (.int .i64 x.regime.gap),.v (.bool x.regime.noMeet),.v (.int .i64 x.crew.tugs),.v (.int .i64 x.crew.pilots),.v (.int .i64 x.crew.rest),.v x.crew.moves.val]),(1,.row 222 5 ((a.l.take k).flatMap (·.pas.l)).length (((a.l.take k).flatMap (·.pas.l)).flatMap qx)),(2,.row 303 4 (pilD (jK x.chart) ((a.l.take k).map jK)).length ((pilD (jK x.chart) ((a.l.take k).map jK)).flatMap qx))],h,3⟩) (fun k=>k≤a.l.length) (fun k=>a.l.length - k) 0 (jC _) [0,1,2] ?_ ?_
 ·refine Evs ?_
  exact Gk
 intro k hk
 refine Wk ?_
 refine zc9 rfl (fun K=>?_) (fun K=>?_)
 ·have b:=zjH K
  have Y:=i.el b
  have g:a.l[k].pas.Ok h:=Y.2.2.2
  have M:h.ldL a.l[k].pas.val 5=some (a.l[k].pas.l.flatMap qx):=Sl.Ok.all g (by decide)
  have w:(a.l.take (k+1)).flatMap (·.pas.l)=(a.l.take k).flatMap (·.pas.l) ++ a.l[k].pas.l:=by rw [qw b,jF];simp
  have Z:((a.l.take (k+1)).flatMap (·.pas.l)).length≤(a.l.flatMap (·.pas.l)).length:=by
   rw [← yk (k+1) a.l,jF,yk,jP];omega
  rw [w,jP] at Z
  obtain ⟨h0,hC,hP⟩:=R _ (qd b)
  have al:=g.max
  have aa:=zKX (c:=jK x.chart) (l:=(a.l.take k).map jK)
  rw [jH,ww] at aa
  repeat' first|refine Wa ?_|(simp only [go_sem,jq,jj,jy,jv,jk,jx,zkZ i b,i.some b,b,jW];try rfl)|refine Wb ?_|fail
  simp only [M,jX,jc,← w,← jF,← jP]
  refine ⟨trivial,fun u hu=>zKm hu,by simp only [maxLen];rw [w,jP];omega,by rw [w,jP];omega,?_⟩
  refine Wk ?_
  refine zc9 rfl (fun hq=>?_) (fun hq=>?_)
  case refine_2=>exact absurd (JF hq) (by omega)
  have f:a.l[k].pas.l.length - 1 < a.l[k].pas.l.length:=by omega
  have n:IntKind.i64.wrap ((a.l[k].pas.l.length:Int) - 1)=((a.l[k].pas.l.length - 1:Nat):Int):=by rw [zjz (by omega)];omega
  obtain ⟨g1,g2⟩:=zFs hC h0
  obtain ⟨g3,g4⟩:=zFs hC f
  have q:(0:Int) < a.l[k].pas.l.length:=by omega
  have r:=Sl.Ok.some g h0
  have j:=zkV g h0
  have m:=zm3 g h0
  simp only [go_sem,jA] at j m
  refine Wk ?_
  refine zz5 rfl ?_
  refine U_t [0,1,3,7,9,2,4,8,10,5,11,6,12,13,14] rfl ?_
  simp only [go_sem,jq,jj,jy,jv,jk,jx,r,j,m,q,je,jA,qF,Jg,JA,JB,zkV g f,Sl.Ok.some g f,f,jW,n,zkZ i b,i.some b,b]
  refine U_1 15 0 [] rfl rfl ?_
  simp only [go_sem,jq,jj,jy,jv,jk,jx,r,j,m,q,je,jA,qF,Jg,JA,JB,zkV g f,Sl.Ok.some g f,f,jW,n,zkZ i b,i.some b,b]
  refine zhF (fun _=>zFt x.chart _ _ _ Q.2.1 g1 g2 g3 g4) ?_
  simp only [go_sem,jq,jj,jy,jv,jk,jx,r,j,m,q,je,jA,qF,Jg,JA,JB,zkV g f,Sl.Ok.some g f,f,jW,n,zkZ i b,i.some b,b]
  refine U_1 16 0 [] rfl rfl ?_
  simp only [go_sem,jq,jj,jy,jv,jk,jx,r,j,m,q,je,jA,qF,Jg,JA,JB,zkV g f,Sl.Ok.some g f,f,jW,n,zkZ i b,i.some b,b]
  refine U_1 17 0 [] rfl rfl ?_
  simp only [go_sem,jq,jj,jy,jv,jk,jx,r,j,m,q,je,jA,qF,Jg,JA,JB,zkV g f,Sl.Ok.some g f,f,jW,n,zkZ i b,i.some b,b]
  refine ⟨by simp only [maxLen];omega,by omega,?_⟩
  refine U_t [18] rfl ?_
  simp only [go_sem,jq,jj,jy,jv,jk,jx,r,j,m,q,je,jA,qF,Jg,JA,JB,zkV g f,Sl.Ok.some g f,f,jW,n,zkZ i b,i.some b,b]
  refine U_d ?_
  refine Wk ?_
  have ab:pilD (jK x.chart) ((a.l.take (k+1)).map jK)=pilD (jK x.chart) ((a.l.take k).map jK) ++ [zFo (jK x.chart) a.l[k].pas.l[0] a.l[k].pas.l[a.l[k].pas.l.length - 1]]:=by
   rw [qw b,qB,wx,yD,zLd (by rw [zLc];exact h0),zLc]
   simp [ja,h0,f]
  refine ⟨k+1,[0,4,6],b,by omega,?_⟩
  refine Evs ?_
  rw [ab,jF,jP]
  exact Gi (zjA b (by omega))
 ·have am:=zjI K
  have ac:k=a.l.length:=by omega
  rw [ac,qG]
  refine zc6 ?_
  refine Evs ?_
  refine zl7 1 (a.l.flatMap (·.pas.l)) rfl rfl rfl rfl (by decide) (fun y N=>?_) h (wW _) (Mines.flat (fun _=>rfl) (fun _=>trivial)) fun s h' e1 e2 O e4=>?_
  ·obtain ⟨z,X,N⟩:=List.mem_flatMap.1 N
   exact (i.2.2.2.1 z X).2.2.2.2.2.2.1 y N
  have G:jD h' x:=jL O Q
  refine zl7 2 (pilD (jK x.chart) (a.l.map jK)) rfl rfl rfl rfl (by decide) (zLe G.2.1 (fun o ho=>jL O (i.2.2.2.1 o ho)) R) h O (Mines.flat (fun _=>rfl) (fun _=>trivial)) fun d h2 d1 d2 d3 d4=>?_
  have D:jD h2 x:=jL d3 G
  refine Wk ?_
  refine zkr (zHU x.chart x.fleet s _ D.2.1 D.2.2.1 (e2.mono d3)) rfl ?_
  rintro v h3 H ⟨t,rfl,F,ae,mt⟩
  have J:jD h3 x:=jL H D
  have ag:zHK (jK x).chart (jK x).fleet ((a.l.map jK).flatMap (·.pas))=zHK (jK x.chart) x.fleet.l s.l:=by
   rw [zLb,e1,show (jK x).fleet=x.fleet.l from zBi _];rfl
  have ah:(jK x).crew.moves=x.crew.moves.l:=zJ7 x.crew
  have ai:=d2.mono H
  rw [zKU,ag,ah]
  cases aj:zHK (jK x.chart) x.fleet.l s.l with
  | none =>
   refine Evs ?_
   refine Wk ?_
   refine zhF (V:=.bool false) (fun e=>by cases e) ?_
   refine Evs ?_
   refine Wk ?_
   refine zhF (V:=.bool false) (fun e=>by cases e) ?_
   refine Evs ?_
   exact Wk0
  | some dl =>
   rw [aj] at F
   have F:t.l=dl:=F
   refine Evs ?_
   refine Wk ?_
   refine zhF (fun _=>zK9 0 x.crew.moves t x.crew.tugs _ J.2.2.2.2.2.2.2 ae) ?_
   refine Evs ?_
   refine Wk ?_
   refine zhF (fun _=>zK9 x.crew.rest x.crew.moves d x.crew.pilots _ J.2.2.2.2.2.2.2 ai) ?_
   refine Evs ?_
   refine Wk ?_
   rw [F,d1];rfl
end Go.Proofs.YtbkaaakphpbmiaaGreat
