/- Plain theorems about the model. -/
import Derived.Laws.BytesString
import Derived.Laws.Strings
import Derived.WideShapes
import Derived.Test.YtbkaaakphpbmiaaGreatSWaitStrategyx2
set_option linter.unusedVariables false
set_option linter.unusedSimpArgs false
set_option maxRecDepth 4000
open Nat renaming reduceAdd → jq, reduceMul → jj, reduceBEq → jy, reduceLeDiff → jv, reduceLT → jk, reduceEqDiff → jx, zero_add → jb, zero_le → jC, le_refl → qV, not_lt_zero → qE, mul_one → wy, lt_or_ge → wv, le_trans → wK, mul_le_mul_right → wP, eq_zero_or_pos → we, pow_le_pow_right → wG, lt_of_lt_of_le → yK, add_mul → yP, mod_eq_of_lt → uv, add_comm → uV, eq_of_testBit_eq → ue, mod_two_eq_zero_or_one → ug, one_mul → JQ, testBit_succ → JW, add_mul_mod_self_right → JY, lt_of_le_of_lt → JK, strongRecOn → JP, min_eq_left → Ja, sub_self → Je
open Bool renaming or_eq_false_iff → jp, or_eq_true → jQ, and_eq_true → jJ, not_eq_true' → jd, true_and → qp, false_eq_true → qW, false_ne_true → qa, or_false → wC
open List renaming length_append → jP, getD_eq_getElem?_getD → ja, length_singleton → jg, toList_toArray → jE, flatMap_append → jF, length_map → jH, take_succ_eq_append_getElem → qw, take_of_length_le → qy, length_cons → qv, length_nil → qY, size_toArray → qK, getElem?_eq_getElem → qX, mem_cons_of_mem → qg, map_append → qB, mem_cons_self → qC, getElem_of_mem → qL, length_take → ww, map_cons → wx, all_eq_true → wY, flatMap_cons → wV, map_congr_left → wb, length_set → wc, range → wg, map_map → yj, take_append_drop → yk, filter_append → yQ, append_nil → yJ, mem_singleton → ya, range_succ → yg, mem_of_mem_drop → yA, mem_of_mem_take → yB, nodup_append → yE, getElem?_take → yF, getElem_append_left → yH, mem_map_of_mem → uX, take_left' → uP, length_drop → ub, filter_cons_of_pos → uc, findSome?_eq_none_iff → uf, getElem_append_right → uC, getElem?_drop → uF, flatMap_nil → uH, take → Jq, filter_cons_of_neg → Jk, contains_eq_mem → Jb, drop_of_length_le → Jf
open Option renaming getD_some → jc, map_some → qq, map → qe, isSome_none → yG
open Array renaming getD_eq_getD_getElem? → yL, length_toList → uA, getElem?_setIfInBounds_ne → uB
namespace Go.SL
open Go Go.RowKit
theorem Ct.forget {P:Program} {f:FuncId} {a:List Value} {h:Hp} {p:Value→Prop} (H:Ct P f a h fun v _=>p v):Ct P f a h fun v h'=>p v∧h'=h:=by
 unfold Ct at *
 exact ⟨H.1,fun W c=>(H.2 W c).mono fun _ _ ⟨v,h',d,r,b,l,s,n⟩=>⟨v,h,d,⟨r,rfl⟩,b,Hp.le_refl _,fun b o e=>s b o (l b o e),fun b o g h2=>by rw [g] at h2;cases h2⟩⟩
theorem znE {α:Type} [Enc α] {h:Hp}:(⟨none,0,[]⟩:Sl α).Ok h:=⟨qV _,fun h=>(h rfl).elim,fun i x a=>(by cases a),fun x a=>(by cases a),jC _⟩
theorem znF {α:Type} {p:α→Bool} {l:List α} {k:Nat} (a:k < l.length) (b:p l[k]=true):(l.take (k+1)).filter p=(l.take k).filter p ++ [l[k]]:=by
 rw [qw a,yQ,uc b,List.filter_nil]
theorem znG {α:Type} {p:α→Bool} {l:List α} {k:Nat} (a:k < l.length) (b:p l[k]=false):(l.take (k+1)).filter p=(l.take k).filter p:=by
 rw [qw a,yQ,Jk (by rw [b];exact qa),List.filter_nil,yJ]
theorem znH {α β:Type} {f:α→β} {l:List α} {k:Nat} (a:k < l.length):(l.take (k+1)).map f=(l.take k).map f ++ [f l[k]]:=by
 rw [qw a,qB];rfl
@[go_sem] theorem znI {a b:ByteArray}:(a.toList == b.toList)=decide (a=b):=by
 rw [ByteArray.toList_eq,ByteArray.toList_eq]
 by_cases h:a=b
 ·subst h;simp
 ·rw [decide_eq_false h]
  exact beq_eq_false_iff_ne.2 fun e=>h (WideShapes.bytes_inj e)
def znJ (s:ByteArray) (k:Nat):Int:=((s[k]?).getD 0).toNat
@[go_sem] theorem znK {P:Program} {g:Bool} {t:TypeId} {s:ByteArray} {i:SV} {L:SV→Prop} (a:arrT P t=none):zbj P g t (.c (.v (.string s))) i L=((g=true→∃ k,Value.isI k i.val)∧strT P t=true∧(g=true→0≤Value.I i.val∧Value.I i.val < s.size)∧L (.c (.v (.int .u8 (znJ s (Value.I i.val).toNat))))):=by
 unfold zbj
 rw [a]
 simp [Value.isS,SV.val,SC.val,Value.S,znJ]
class Sz (β:Type) where
 sz:β→Nat
instance:Sz Int:=⟨fun _=>0⟩
instance:Sz Bool:=⟨fun _=>0⟩
instance:Sz ByteArray:=⟨fun s=>s.size⟩
instance {β:Type} [Sz β]:Sz (List β):=⟨fun l=>l.length+(l.map Sz.sz).sum⟩
theorem znL {β:Type} [Sz β] {l:List β}:Sz.sz l=l.length+(l.map Sz.sz).sum:=rfl
theorem znM {β:Type} [Sz β] {l:List β} {n:Nat} (h:Sz.sz l≤n):l.length≤n:=by rw [znL] at h;omega
theorem znN {β:Type} [Sz β] {l:List β} {n:Nat} (h:Sz.sz l≤n) {x:β} (a:x ∈ l):Sz.sz x≤n:=by
 have:=zkN (uX (f:=Sz.sz) a)
 rw [znL] at h;omega
class BlkCon (α:Type) (β:outParam Type) [Blk α] [Con α β] [Sz β]:Prop where
 eq:∀ x:α,Blk.blk x=Sz.sz (Con.con x)
instance:BlkCon Int Int:=⟨fun _=>rfl⟩
instance:BlkCon Bool Bool:=⟨fun _=>rfl⟩
instance:BlkCon ByteArray ByteArray:=⟨fun _=>rfl⟩
instance {α β:Type} [Blk α] [Con α β] [Sz β] [BlkCon α β]:BlkCon (Sl α) (List β):=⟨fun s=>by
 rw [zkB,znL,zkz,jH,yj]
 congr 2
 exact wb fun x _=>BlkCon.eq x⟩
theorem znO {α β:Type} [Blk α] [Con α β] [Sz β] [BlkCon α β] {a s:α} (h:Con.con s=Con.con a) {n:Nat} (b:Blk.blk a≤n):Sz.sz (Con.con s)≤n:=by
 rw [h,← BlkCon.eq];exact b
theorem znP {α β:Type} [Con α β] (s:Sl α):(Con.con s).length=s.l.length:=by rw [zkz,jH]
instance:Sz DCall:=⟨fun _=>0⟩
instance:BlkCon DCall DCall:=⟨fun _=>rfl⟩
instance:Sz DPassage:=⟨fun _=>0⟩
instance:BlkCon DPassage DPassage:=⟨fun _=>rfl⟩
instance:Sz POption:=⟨fun c=>Sz.sz c.pas⟩
instance:BlkCon DOption POption:=⟨fun c=>by
 rw [zkY]
 show _=Sz.sz (Con.con c.pas)
 simp only [BlkCon.eq]⟩
instance:Sz PCrew:=⟨fun c=>Sz.sz c.moves⟩
instance:BlkCon DCrew PCrew:=⟨fun c=>by
 rw [zk2]
 show _=Sz.sz (Con.con c.moves)
 simp only [BlkCon.eq]⟩
instance:Sz DPart:=⟨fun _=>0⟩
instance:BlkCon DPart DPart:=⟨fun _=>rfl⟩
instance:Sz PTide:=⟨fun c=>Sz.sz c.parts⟩
instance:BlkCon DTide PTide:=⟨fun c=>by
 rw [zk7]
 show _=Sz.sz (Con.con c.parts)
 simp only [BlkCon.eq]⟩
instance:Sz DSurge:=⟨fun _=>0⟩
instance:BlkCon DSurge DSurge:=⟨fun _=>rfl⟩
instance:Sz PForecast:=⟨fun c=>Sz.sz c.tide+Sz.sz c.surges⟩
instance:BlkCon DForecast PForecast:=⟨fun c=>by
 rw [zlc]
 show _=Sz.sz (Con.con c.tide)+Sz.sz (Con.con c.surges)
 simp only [BlkCon.eq]⟩
instance:Sz DPoint:=⟨fun c=>Sz.sz c.name⟩
instance:BlkCon DPoint DPoint:=⟨fun c=>by
 rw [zle]
 show _=Sz.sz (Con.con c.name)
 simp only [BlkCon.eq]⟩
instance:Sz DSegment:=⟨fun _=>0⟩
instance:BlkCon DSegment DSegment:=⟨fun _=>rfl⟩
instance:Sz PChart:=⟨fun c=>Sz.sz c.points+Sz.sz c.segments⟩
instance:BlkCon DChart PChart:=⟨fun c=>by
 rw [zlk]
 show _=Sz.sz (Con.con c.points)+Sz.sz (Con.con c.segments)
 simp only [BlkCon.eq]⟩
instance:Sz DShip:=⟨fun c=>Sz.sz c.name⟩
instance:BlkCon DShip DShip:=⟨fun c=>by
 rw [zlm]
 show _=Sz.sz (Con.con c.name)
 simp only [BlkCon.eq]⟩
instance:Sz DRegime:=⟨fun _=>0⟩
instance:BlkCon DRegime DRegime:=⟨fun _=>rfl⟩
instance:Sz PHarbour:=⟨fun c=>Sz.sz c.forecast+Sz.sz c.chart+Sz.sz c.fleet+Sz.sz c.crew⟩
instance:BlkCon DHarbour PHarbour:=⟨fun c=>by
 rw [zlr]
 show _=Sz.sz (Con.con c.forecast)+Sz.sz (Con.con c.chart)+Sz.sz (Con.con c.fleet)+Sz.sz (Con.con c.crew)
 simp only [BlkCon.eq]⟩
instance:Sz PBranch:=⟨fun c=>Sz.sz c.plan⟩
instance:BlkCon DBranch PBranch:=⟨fun c=>by
 rw [zlu]
 show _=Sz.sz (Con.con c.plan)
 simp only [BlkCon.eq]⟩
instance:Sz PStrategy:=⟨fun c=>Sz.sz c.branches⟩
theorem znQ {c:PStrategy}:Sz.sz c=Sz.sz c.branches:=rfl
instance:BlkCon DStrategy PStrategy:=⟨fun c=>by
 rw [zly]
 show _=Sz.sz (Con.con c.branches)
 simp only [BlkCon.eq]⟩
instance:Sz DWindow:=⟨fun _=>0⟩
instance:BlkCon DWindow DWindow:=⟨fun _=>rfl⟩
instance:Sz DDuty:=⟨fun _=>0⟩
instance:BlkCon DDuty DDuty:=⟨fun _=>rfl⟩
open Go Go.RowKit
theorem znR {h h':Hp} {b:Nat} (a:h.le h') (c:h' b=none):h b=none:=by
 cases d:h b with
 | none=>rfl
 | some o=>rw [← c,a b o d]
theorem znS {α:Type} [Enc α] [Foot α] {h h':Hp} {x:α} (a:h.le h') (ok:Enc.ok h x) (c:Foot.own h x):Foot.own h' x:=(Foot.loc ok c fun b _ o d=>a b o d).2
theorem znT {h0 h h':Hp} {f:List Nat} (c:h0.le h) (d:∀ b ∈ f,h0 b=none) (e:∀ b o,h b=some o→¬ (b ∈ f)→h' b=some o):h0.le h':=fun b o a =>
 e b o (c b o a) fun g=>by rw [d b g] at a;cases a
class MkSz (α:Type) {β:outParam Type} [Mk α] [Con α β] [Sz β]:Prop where
 le:∀ x:α,Mk.cnt x≤6+6 * Sz.sz (Con.con x)
instance:MkSz Int:=⟨fun x=>by show 1≤_;omega⟩
theorem znU {α β:Type} [Mk α] [Con α β] [Sz β] [MkSz α]:∀ l:List α,cntL l≤6 * (l.length+((l.map Con.con).map Sz.sz).sum)
 | []=>jC _
 | x :: l=>by
  have a:=znU l
  have h2:=MkSz.le x
  rw [zl9]
  simp only [qv,wx,List.sum_cons]
  omega
instance {α β:Type} [Mk α] [Con α β] [Sz β] [MkSz α]:MkSz (Sl α):=⟨fun s=>by
 have:=znU s.l
 rw [zkz,znL,jH]
 show cntL s.l≤_
 omega⟩
instance:MkSz DCall:=⟨fun x=>by show 5≤_;omega⟩
instance:MkSz DPassage:=⟨fun x=>by show 5≤_;omega⟩
instance:MkSz DPart:=⟨fun x=>by show 3≤_;omega⟩
instance:MkSz DSurge:=⟨fun x=>by show 3≤_;omega⟩
instance:MkSz DPoint:=⟨fun x=>by show 2≤_;omega⟩
instance:MkSz DSegment:=⟨fun x=>by show 5≤_;omega⟩
instance:MkSz DShip:=⟨fun x=>by show 6≤_;omega⟩
instance:MkSz DWindow:=⟨fun x=>by show 2≤_;omega⟩
instance:MkSz DDuty:=⟨fun x=>by show 4≤_;omega⟩
theorem znV {α β:Type} [Mk α] [Con α β] [Sz β] [MkSz α] (s:Sl α):Mk.cnt s≤6 * Sz.sz (Con.con s):=by
 have:=znU s.l
 rw [zkz,znL,jH]
 exact this
instance:MkSz DOption:=⟨fun x=>by
 have:=znV x.pas
 show 3+Mk.cnt x.pas≤6+6 * Sz.sz (Con.con x.pas)
 omega⟩
instance:MkSz DBranch:=⟨fun x=>by
 have:=znV x.plan
 show 2+Mk.cnt x.plan≤6+6 * Sz.sz (Con.con x.plan)
 omega⟩
theorem znW {α β:Type} [Mk α] [Con α β] [Sz β] [MkSz α] {s:Sl α} {c:List β} {n:Nat} (e:Con.con s=c) (h:Sz.sz c≤n):Mk.cnt s≤6 * n:=by
 have:=znV s
 rw [e] at this
 omega
theorem znX {α:Type} [Mk α] (s:Sl α) (k:Int):(Mk.put s k).val=s.val:=by
 show Value.slice s.a (mkL s.l k).length s.cap=_
 rw [zmb];rfl
open Go Go.RowKit
theorem znY {α β:Type} [Mk α] [Con α β] [Sz β] [MkSz α] (s:Sl α):Mk.cnt s≤6 * Sz.sz (Con.con s):=znV s
theorem znZ (c:DCrew) (k:Int):Foot.foot (zmE c k)=Foot.foot c:=by simp only [zmt,zmE,MkOk.foot]
theorem zn0 (c:DCrew):zmF c≤6 * Sz.sz (Con.con c):=by
 have h0:=znY c.moves
 have a:Sz.sz (Con.con c)=Sz.sz (Con.con c.moves):=rfl
 simp only [zmF]
 omega
theorem zn1 (c:DTide) (k:Int):Foot.foot (zmG c k)=Foot.foot c:=by simp only [zmv,zmG,MkOk.foot]
theorem zn2 (c:DTide):zmH c≤6 * Sz.sz (Con.con c):=by
 have h0:=znY c.parts
 have a:Sz.sz (Con.con c)=Sz.sz (Con.con c.parts):=rfl
 simp only [zmH]
 omega
theorem zn3 (c:DForecast) (k:Int):Foot.foot (zmI c k)=Foot.foot c:=by simp only [zmx,zmI,MkOk.foot,zn1]
theorem zn4 (c:DForecast):zmJ c≤6 * Sz.sz (Con.con c):=by
 have h0:=zn2 c.tide
 have a:=znY c.surges
 have b:Sz.sz (Con.con c)=Sz.sz (Con.con c.tide)+Sz.sz (Con.con c.surges):=rfl
 simp only [zmJ]
 omega
theorem zn5 (c:DChart) (k:Int):Foot.foot (zmK c k)=Foot.foot c:=by simp only [zmz,zmK,MkOk.foot]
theorem zn6 (c:DChart):zmL c≤6 * Sz.sz (Con.con c):=by
 have h0:=znY c.points
 have a:=znY c.segments
 have b:Sz.sz (Con.con c)=Sz.sz (Con.con c.points)+Sz.sz (Con.con c.segments):=rfl
 simp only [zmL]
 omega
theorem zn7 (c:DHarbour) (k:Int):Foot.foot (zmM c k)=Foot.foot c:=by simp only [zmB,zmM,MkOk.foot,zn3,zn5,znZ]
theorem zn8 (c:DHarbour):zmN c≤6 * Sz.sz (Con.con c):=by
 have h0:=zn4 c.forecast
 have a:=zn6 c.chart
 have h2:=znY c.fleet
 have b:=zn0 c.crew
 have d:Sz.sz (Con.con c)=Sz.sz (Con.con c.forecast)+Sz.sz (Con.con c.chart)+Sz.sz (Con.con c.fleet)+Sz.sz (Con.con c.crew):=rfl
 simp only [zmN]
 omega
theorem zn9 {s:DHarbour} {c:PHarbour} {n:Nat} (e:Con.con s=c) (h:Sz.sz c≤n):zmN s≤6 * n:=by
 have:=zn8 s
 rw [e] at this
 omega
theorem zoa (c:DStrategy) (k:Int):zmP (zmO c k)=zmP c:=by simp only [zmP,zmO,MkOk.cnt]
theorem zob (c:DStrategy) (k:Int):zmO (zmO c k) k=zmO c k:=by simp only [zmO,MkOk.idem,MkOk.cnt]
theorem zoc (c:DStrategy):zmP c≤6 * Sz.sz (Con.con c):=by
 have h0:=znY c.branches
 have a:Sz.sz (Con.con c)=Sz.sz (Con.con c.branches):=rfl
 simp only [zmP]
 omega
theorem zod {s:DStrategy} {c:PStrategy} {n:Nat} (e:Con.con s=c) (h:Sz.sz c≤n):zmP s≤6 * n:=by
 have:=zoc s
 rw [e] at this
 omega
theorem Wk {P Q:Prop} (q:Q) (t:Q→P:=by (intro a;(repeat' first|refine zie rfl ?_|refine zc4 rfl ?_|refine zc7 ?_|refine zc8 ?_|refine zc5 ?_|refine zc6 ?_|(simp (maxSteps:=2000000) only [go_sem,jq,jj,jy,jv,jk,jx];try rfl)|refine zc3 ?_|(refine And.intro ?_ ?_;focus (intros;clear a;simp_all only [jp,jQ,jJ,JC,JA,JB];done)));exact a;done)):P:=t q
theorem Wk0 {P:Prop} (t:P:=by ((repeat' first|refine zie rfl ?_|refine zc4 rfl ?_|refine zc7 ?_|refine zc8 ?_|refine zc5 ?_|refine zc6 ?_|(simp (maxSteps:=2000000) only [go_sem,jq,jj,jy,jv,jk,jx];try rfl)|refine zc3 ?_|(refine And.intro ?_ ?_;focus (intros;simp_all only [jp,jQ,jJ,JC,JA,JB];done)));done)):P:=t
theorem Evs {P Q:Prop} (q:Q) (t:Q→P:=by (intro a;(simp (maxSteps:=2000000) only [go_sem,jq,jj,jy,jv,jk,jx]);exact a;done)):P:=t q
theorem Evc {P:Prop} (t:P:=by (simp (maxSteps:=2000000) only [go_sem,jq,jj,jy,jv,jk,jx];done)):P:=t
class St1 (x:Cx) (st:St) (c:Code) (Q:Exit→St→Prop) (P:outParam Prop):Prop where
 go:P→T x st c Q
instance {x:Cx} {st:St} {Q:Exit→St→Prop}:St1 x st .ret Q (Q .ret st):=⟨zc7⟩
instance {x:Cx} {st:St} {Q:Exit→St→Prop} {id:Nat} {c:Code}:St1 x st (.block id c) Q (T x st c (zc2 id Q)):=⟨zc8⟩
instance {x:Cx} {st:St} {Q:Exit→St→Prop}:St1 x st .skip Q (Q .normal st):=⟨zc5⟩
instance {x:Cx} {st:St} {Q:Exit→St→Prop} {id:Nat}:St1 x st (.exit id) Q (Q (.exit id) st):=⟨zc6⟩
theorem Wa {P Q:Prop} (q:Q) (t:Q→P:=by (intro a;(first|refine zie rfl ?_|refine zc4 rfl ?_|refine St1.go ?_|fail);exact a)):P:=t q
theorem Wb {P Q:Prop} (q:Q) (t:Q→P:=by (intro a;(first|refine zc3 ?_|(refine And.intro ?_ ?_;focus (intros;clear a;simp_all only [jp,jQ,jJ,JC,JA,JB];(first|done|fail)))|fail);exact a)):P:=t q
theorem Gi {a b:Int} (e:a=b) {P:Prop} (t:a=b→P:=by (intro e;repeat' first|exact zjB e|exact rfl|exact trivial|assumption|decide|refine And.intro ?_ ?_)):P:=t e
theorem Gk {P:Prop} (t:P:=by (repeat' first|exact rfl|exact trivial|assumption|decide|refine And.intro ?_ ?_)):P:=t
open Go Go.RowKit
def Sl.to {α:Type} (s:Sl α) (k:Nat):Sl α:=⟨s.a,s.cap,s.l.take k⟩
theorem Sl.to_len {α:Type} {s:Sl α} {k:Nat} (a:k≤s.l.length):(s.to k).l.length=k:=by show (s.l.take k).length=k;rw [ww];omega
theorem Sl.to_ok {α:Type} [Enc α] {h:Hp} {s:Sl α} (H:s.Ok h) (k:Nat):(s.to k).Ok h:=by
 refine ⟨wK (by show (s.l.take k).length≤_;rw [ww];omega) H.1,fun b=>H.2.1 fun e=>b (by show s.l.take k=[];rw [e];exact List.take_nil),fun i x a=>H.2.2.1 i x ?_,fun x a=>H.2.2.2.1 x (yB a),H.2.2.2.2⟩
 have a:(s.l.take k)[i]?=some x:=a
 rw [yF] at a
 split at a
 ·exact a
 ·cases a
theorem Sl.to_get {α:Type} {s:Sl α} {k j:Nat} (b:j < (s.to k).l.length) (a:j < s.l.length):(s.to k).l[j]=s.l[j]:=by
 exact List.getElem_take
theorem zza:(fun x:Addr=>x.add 0)=fun x=>x:=by funext x;simp [Addr.add]
theorem zzb {α:Type} {a:Option α}:qe (fun x=>x) a=a:=by cases a <;> rfl
theorem zzc {α:Type} {s:Sl α} {k:Nat} (b:k≤s.l.length):Value.slice s.a k s.cap=(s.to k).val:=by
 show _=Value.slice s.a (s.l.take k).length s.cap
 rw [ww,Ja b]
open Go Go.RowKit
theorem zzd {cs:List SC} (h:cs.all zb7=true) (ρ:Rho):cs.map (·.conc ρ)=cs.map (·.val):=by
 apply wb
 intro c a
 have:=List.all_eq_true.1 h c a
 cases c <;> first|rfl|cases this
theorem Conc.pubB {W0:Base} {h0:Hp} {N:Nat} {st:St} {a:Act} {W:World} {r:Nat} {ty:TypeId} {cs:List SC} (q:look r st.p=some (.box ty cs)) (x:cs.all zb7=true) (H:Conc W0 h0 N st a W) :
  ∃ g,st.h g=none∧W0.own g∧Conc W0 h0 N (st.sub r (.pointer (some ⟨g,0,none⟩)) (st.h.ins g (.cells (cs.map (·.val)).toArray ty (0,0)))) a W:=by
 obtain ⟨ρ,hf,hW,hw⟩:=H
 obtain ⟨g,w,_,y⟩:=hW.priv r _ q
 rw [zzd x] at y
 have i:∀ {v:Value} {k m},look k (subP r v (zb2 r st.p))=some m→∃ b,look k st.p=some b∧k ≠ r∧m=b.sub r v:=by
  intro v k m j
  obtain ⟨b,d,h2⟩:=zjL j
  exact ⟨b,(zb3 d).1,(zb3 d).2,h2⟩
 have l:PB.at ρ r g:=.inl w
 have u:=hW.apart r _ g q l
 refine ⟨g,u,hW.own r _ _ q l,ρ,⟨hf.1,hf.2.1,fun t c sv J=>?_⟩,?_,?_⟩
 ·obtain ⟨z,d,rfl⟩:=zjK J
  rw [SV.sub_conc w]
  exact hf.2.2 t c z d
 ·refine ⟨hW.below,fun b o f=>?_,fun b o d h2=>Hp.ins_le u b o (hW.ext b o d h2),fun b o f D=>?_,fun k m s j n=>?_,fun k m j=>?_,fun k m s j n=>?_,fun k b K m g j F d h2=>?_⟩
  ·simp only [St.sub,Hp.ins] at f
   split at f
   ·rename_i e;subst e;simp only [Option.some.injEq] at f;rw [← f];exact y
   ·exact hW.sees b o f
  ·simp only [St.sub,Hp.ins] at f
   split at f
   ·rename_i e;subst e;exact hW.own r _ _ q l
   ·exact hW.new b o f D
  ·obtain ⟨b,d,_,rfl⟩:=i j
   exact hW.own k b s d n
  ·obtain ⟨b,d,_,rfl⟩:=i j
   exact PB.ok_sub w (hW.priv k b d)
  ·obtain ⟨b,d,G,rfl⟩:=i j
   simp only [St.sub,Hp.ins]
   split
   ·rename_i e;subst e
    exact (G (hW.distinct k b r _ s d q n l)).elim
   ·exact hW.apart k b s d n
  ·obtain ⟨b,M,_,rfl⟩:=i j
   obtain ⟨O,Q,_,rfl⟩:=i F
   exact hW.distinct k b K O g M Q d h2
 ·simp only [St.wf,St.sub,jJ]
  exact ⟨zjM (wf_e hw),zjN (zb4 (wf_p hw))⟩
theorem zze {x:Cx} {st:St} {c:Code} {Q:Exit→St→Prop} (r:Nat) {ty:TypeId} {cs:List SC} (e:look r st.p=some (.box ty cs)) (b:cs.all zb7=true)
  (h:∀ g,st.h g=none→x.W0.own g→T x (st.sub r (.pointer (some ⟨g,0,none⟩)) (st.h.ins g (.cells (cs.map (·.val)).toArray ty (0,0)))) c Q):T x st c Q:=by
 unfold T at *
 intro a W f
 obtain ⟨g,i,h2,d⟩:=f.pubB e b
 exact h g i h2 a W d
@[go_sem] theorem zzf {b o:Nat} {s}:blk (.pointer (some ⟨b,o,s⟩))=b:=rfl
theorem zzg {h:Hp} {b:Nat} {xs:List Value} {ty:TypeId} {o n:Nat} {c:List Value} (e:h b=some (.cells xs.toArray ty (0,0))) (f:(xs.drop o).take n=c) (g:o+n≤xs.length):h.lds (some ⟨b,o,none⟩) n=some c:=by
 subst f
 refine zad (by simp;omega) fun j v a=>?_
 have d:xs[o+j]?=some v:=by
  rw [yF] at a
  split at a
  ·simpa [uF] using a
  ·cases a
 rw [za4]
 simp only [Hp.cell,e,jb,yG,qW,if_false]
 simpa using d
def Hp.del (h:Hp) (b:Nat):Hp:=fun i=>if i=b then none else h i
theorem Hp.del_ne {h:Hp} {b i:Nat} (a:i ≠ b):h.del b i=h i:=by simp [Hp.del,a]
theorem Hp.del_same {h:Hp} {b:Nat}:h.del b b=none:=by simp [Hp.del]
def zzh (x:Cx) (st:St) (t:Nat) (K:St→Prop):Prop :=
 ∃ v,look t st.e=some (true,.c (.v v))∧((v=.slice none 0 0∧∃ e sz,K ⟨(t,true,.c (.s st.nx)) :: st.e,(st.nx,.row e sz 0 []) :: st.p,st.h,st.nx+1⟩) ∨
  ∃ b n cap cur e sz,v=.slice (some ⟨b,0,none⟩) n cap∧st.h b=some (.cells cur e (0,0))∧(x.h0 b=none∨x.W0.own b)∧cur.size=cap * sz∧n≤cap∧cap≤maxLen ∧
   K ⟨(t,true,.c (.s st.nx)) :: st.e,(st.nx,.row e sz n (cur.toList.take (n * sz))) :: st.p,st.h.del b,st.nx+1⟩)
theorem Conc.adopt {x:Cx} {st:St} {a:Act} {W:World} {t:Nat} {v:Value} {e:TypeId} {y n:Nat} {xs:List Value} {h':Hp} (J:look t st.e=some (true,.c (.v v))) (K:Conc x.W0 x.h0 x.N st a W)
  (z:W.ownsRow 0 e y v n xs) (f:∀ k o,h' k=some o→st.h k=some o) (D:∀ k,st.h k ≠ none→h' k=none→x.W0.own k)
  (i:∀ g,(v=.pointer (some ⟨g,0,none⟩)∨∃ n c,v=.slice (some ⟨g,0,none⟩) n c)→x.W0.own g∧h' g=none∧st.h g ≠ none) :
  Conc x.W0 x.h0 x.N ⟨(t,true,.c (.s st.nx)) :: st.e,(st.nx,.row e y n xs) :: st.p,h',st.nx+1⟩ a W:=by
 obtain ⟨ρ,hf,hW,hw⟩:=K
 refine ⟨upd ρ st.nx v,?_,?_,?_⟩
 ·have j:=hf.congr (wf_e hw) (zbU ρ st.nx v)
  refine ⟨j.1,j.2.1,fun M c sv l=>?_⟩
  simp only [look] at l
  split at l
  ·rename_i e;subst e
   simp only [Option.some.injEq,Prod.mk.injEq] at l
   obtain ⟨rfl,rfl⟩:=l
   rw [if_pos rfl,zak,zaj,zbT]
   have:=hf.2.2 _ _ _ J
   simpa using this
  ·exact j.2.2 M c sv l
 ·have b:WOk x.W0 x.h0 ρ st.p h' W:=by
   refine ⟨hW.below,fun k o O=>hW.sees k o (f k o O),fun k o F h2=>?_,fun k o F h2=>hW.new k o (f k o F) h2,hW.own,hW.priv,fun r m g q d=>?_,hW.distinct⟩
   ·have G:=hW.ext k o F h2
    cases w:h' k with
    | none=>exact (h2 (D k (by rw [G];simp) w)).elim
    | some Q=>rw [f k Q w] at G;exact G
   ·have:=hW.apart r m g q d
    cases w:h' g with
    | none=>rfl
    | some o=>rw [f g o w] at this;cases this
  refine b.add (wf_p hw) (fun _ _ x=>x) b.below b.sees (fun g H=>(i g H).1) (fun r m q=>b.priv r m q) ?_ (fun g H=>(i g H).2.1) (fun r m g q d R=>?_)
  ·show W.ownsRow 0 e y (upd ρ st.nx _ st.nx) n _
   rw [zbT]
   exact z
  ·exact (i g R).2.2 (hW.apart r m g q d)
 ·have u:st.nx≤st.nx+1:=Nat.le_succ _
  simp only [St.wf,jJ]
  exact ⟨by simp [zam,SV.lt,SC.lt,zap u (wf_e hw)],by simp [pbLt,PB.lt,zaq u (wf_p hw)]⟩
theorem zzi {x:Cx} {st:St} {t:Nat} {K:St→Prop} {a:Act} {W:World} (h:zzh x st t K) (j:Conc x.W0 x.h0 x.N st a W):∃ f,K f∧Conc x.W0 x.h0 x.N f a W:=by
 obtain ⟨v,q,⟨rfl,e,w,d⟩|⟨b,n,cap,cur,e,w,rfl,l,m,i,r,y,d⟩⟩:=h
 ·refine ⟨_,d,j.adopt q ⟨by simp,.inl ⟨rfl,rfl⟩⟩ (fun _ _ h=>h) (fun k p h2=>(p h2).elim) (fun g c=>?_)⟩
  rcases c with c|⟨_,_,c⟩ <;> cases c
 ·have s:=j
  obtain ⟨ρ,hf,hW,hw⟩:=s
  have u:x.W0.own b:=Conc.own_new hW (by rw [l];simp) m
  refine ⟨_,d,j.adopt q ⟨by rw [ww,uA,i,Ja (wP _ r)],.inr ⟨b,cap,cur,rfl,jC _,hW.sees b _ l,r,y,i,rfl⟩⟩ (fun k o d=>?_) (fun k p h2=>?_) (fun g c=>?_)⟩
  ·simp only [Hp.del] at d;split at d
   ·cases d
   ·exact d
  ·simp only [Hp.del] at h2;split at h2
   ·rename_i e;subst e;exact u
   ·exact (p h2).elim
  ·rcases c with c|⟨_,_,c⟩
   ·cases c
   ·injection c with c;injection c with c;injection c with c;subst c
    exact ⟨u,Hp.del_same,by rw [l];simp⟩
def zzj (o:Oper):Option Nat:=match o.op with
 | .call ⟨.builtin .append,ars,_⟩=>(match ars.toList with|.tmp t :: _=>some t|_=>none)
 | _=>none
def bstr (ns:List Int):ByteArray:=ns.foldl (fun r n=>r.push (UInt8.ofNat n.toNat)) ByteArray.empty
def zzk (x:Cx) (st:St) (s d:TypeId) (vy:SV) (K:Value→Prop):Prop :=
 ∃ r e n ns e',vy=.c (.s r)∧look r st.p=some (.row e 1 n (ns.map (Value.int .u8)))∧x.P.underlying s=some (.slice e')∧x.P.underlying e'=some (.int .u8)∧x.P.underlying d=some .string∧K (.string (bstr ns))
def zzl (x:Cx) (st:St) (o:Oper) (K:St→Prop):Prop :=
 o.guard=none∧match o.op with
 | .convert s d y=>getO st true y fun vy=>zzk x st s d vy fun v=>K (St.mk (zb5 st.e o.dst true (.c (.v v))) st.p st.h st.nx)
 | _=>False
theorem zzm {x:Cx} {st:St} {o:Oper} {K:St→Prop} {QQ:Exit→Act→World→Prop} {a:Act} {W:World} (G:∀ u,o.dst=some u→u < x.N) (h:zzl x st o K) (H:Conc x.W0 x.h0 x.N st a W) :
  (∀ w,Region.wanted o w=true)∧o.wp x.P a W (fun J M=>∃ l,K l∧Conc x.W0 x.h0 x.N l J M) QQ:=by
 obtain ⟨ρ,hf,hW,hw⟩:=H
 obtain ⟨O,h⟩:=h
 refine ⟨fun w=>by simp [Region.wanted,O],?_⟩
 split at h
 ·rename_i s d y Q
  obtain ⟨vy,h,_,f⟩:=zaB (N:=x.N) hw h
  obtain ⟨r,e,n,ns,z,rfl,R,D,F,m,X⟩:=h
  replace f:=f rfl ρ a hf
  have b:W.ownsRow 0 e 1 (ρ r) n (ns.map (Value.int .u8)):=hW.priv r _ R
  have q:(execOp a.eval o).run x.P W=.ok (.value (.string (bstr ns))) W:=by
   simp only [execOp,Q,f,zak,zaj]
   rcases b.2 with ⟨t,h2⟩|⟨g,cap,cur,t,_,Y,hn,_,aa,p⟩
   ·have h0:ns=[]:=by
     have:=b.1
     rw [h2,jH] at this
     exact List.length_eq_zero_iff.1 (by omega)
    subst h0
    rw [t]
    simp only [Sem.run_bind,run_convert_bytes_string W s d z none _ _ D F m]
    simp [Conv.bytesToString,Sem.run_pure,bstr]
   ·rw [t]
    have Z:(loadCells ⟨g,0,none⟩ n).run x.P W=.ok (ns.map (Value.int .u8)).toArray W:=by
     have i:=b.1
     rw [wy] at i p
     have:=run_loadCells_list (P:=x.P) W ⟨g,0,none⟩ (ns.map (Value.int .u8)) fun j v k=>by
      rw [← p,yF] at k
      split at k
      ·rw [za4]
       simp only [World.cell?,Y,jb,yG,qW,if_false]
       simpa using k
      ·cases k
     rw [i] at this
     exact this
    simp only [Sem.run_bind,run_convert_bytes_string W s d z _ _ _ D F m,run_bytesToString W _ n cap ns Z,Result.andThen_ok,Sem.run_pure]
    rfl
  unfold Oper.wp
  rw [q]
  exact ⟨_,X,Conc.put_ (c:=true) hf hW (wf_p hw) (wf_e hw) G rfl (by simp)⟩
 ·exact h.elim
def vopM (x:Cx) (ops:List Oper) (st:St) (o:Oper) (K:St→Prop):Nat→Prop
 | 0=>vop x.P ops st o K
 | 1=>vopX x st o K
 | 2=>vop x.P ops st o fun st'=>vpub st' o.dst K
 | 4=>zzl x st o K
 | 5=>onD (zzj o) fun t=>zzh x st t fun st1=>vop x.P ops st1 o K
 | _=>onD (zzj o) fun t=>zzh x st t fun st1=>vop x.P ops st1 o fun st'=>vpub st' o.dst K
def zzn (x:Cx) (ops:List Oper) (K:St→Prop):List Nat→List Oper→St→Prop
 | [],l,st=>vops x.P ops l st K
 | m :: ms,o :: l,st=>vopM x ops st o (fun st'=>zzn x ops K ms l st') m
 | _ :: _,[],_=>False
section
variable {x:Cx} {st:St} {Q:Exit→St→Prop}
theorem zzo {ops:List Oper} {o:Oper} {m:Nat} {K:St→Prop} {QQ:Exit→Act→World→Prop} {a:Act} {W:World} (q:∀ s,o.dst=some s→s < x.N) (h:vopM x ops st o K m) (g:Conc x.W0 x.h0 x.N st a W) :
  (Region.wanted o (yielded ops.toArray a.tmps)=true∧o.wp x.P a W (fun d e=>∃ b,K b∧Conc x.W0 x.h0 x.N b d e) QQ)∨(Region.wanted o (yielded ops.toArray a.tmps)=false∧∃ b,K b∧Conc x.W0 x.h0 x.N b (a.put o.dst undef) W):=by
 have l:∀ {r:St→Prop} {st:St},Conc x.W0 x.h0 x.N st a W→vop x.P ops st o r→(∀ b d e,r b→Conc x.W0 x.h0 x.N b d e→∃ n,K n∧Conc x.W0 x.h0 x.N n d e) →
   (Region.wanted o (yielded ops.toArray a.tmps)=true∧o.wp x.P a W (fun d e=>∃ b,K b∧Conc x.W0 x.h0 x.N b d e) QQ)∨(Region.wanted o (yielded ops.toArray a.tmps)=false∧∃ b,K b∧Conc x.W0 x.h0 x.N b (a.put o.dst undef) W):=by
  intro r st g h u
  rcases zcY (Q:=QQ) q h g with ⟨k,i⟩|⟨k,b,f,c⟩
  ·refine .inl ⟨k,Oper.wp_mono ?_ i⟩
   rintro d e ⟨b,f,c⟩
   exact u b d e f c
  ·exact .inr ⟨k,u b _ _ f c⟩
 match m,h with
 | 0,h=>exact l g h fun b d e f c=>⟨b,f,c⟩
 | 1,h =>
  obtain ⟨k,i⟩:=zlQ (QQ:=QQ) q h g
  exact .inl ⟨k _,i⟩
 | 2,h=>exact l g h fun b d e f c=>zlR f c
 | 4,h =>
  obtain ⟨k,i⟩:=zzm (QQ:=QQ) q h g
  exact .inl ⟨k _,i⟩
 | 5,h =>
  have h:onD (zzj o) fun t=>zzh x st t fun j=>vop x.P ops j o K:=h
  unfold onD at h
  split at h
  ·obtain ⟨j,h,p⟩:=zzi h g
   exact l p h fun b d e f c=>⟨b,f,c⟩
  ·exact h.elim
 | 3,h|m+6,h =>
  have h:onD (zzj o) fun t=>zzh x st t fun j=>vop x.P ops j o fun b=>vpub b o.dst K:=h
  unfold onD at h
  split at h
  ·obtain ⟨j,h,p⟩:=zzi h g
   exact l p h fun b d e f c=>zlR f c
  ·exact h.elim
theorem zzp {ops:List Oper} {K:St→Prop} {QQ:Exit→Act→World→Prop} (g:∀ b i j,K b→Conc x.W0 x.h0 x.N b i j→QQ .normal i j):∀ {ms:List Nat} {l:List Oper} {st:St} {a:Act} {W:World},zcZ x.N l=true→zzn x ops K ms l st→Conc x.W0 x.h0 x.N st a W →
  wpList x.P ops.toArray QQ l a W
 | [],l,st,a,W,c,h,f=>by
  have h:vops x.P ops l st K:=by cases l <;> exact h
  exact zc0 c g h f
 | m :: ms,[],st,a,W,c,h,f=>h.elim
 | m :: ms,o :: l,st,a,W,c,h,f=>by
  simp only [zcZ,jJ] at c
  have q:∀ k,o.dst=some k→k < x.N:=by
   intro k e
   have:=c.1
   rw [e] at this
   simpa using this
  have h:vopM x ops st o (fun b=>zzn x ops K ms l b) m:=h
  simp only [wpList]
  rcases zzo (QQ:=QQ) q h f with ⟨n,r⟩|⟨n,b,p,d⟩
  ·rw [if_pos n]
   left
   refine Oper.wp_mono ?_ r
   rintro i j ⟨b,p,d⟩
   exact zzp g c.2 p d
  ·rw [if_neg (by simp [n])]
   exact zzp g c.2 p d
theorem zzq {id:Nat} {ops:List Oper} (n:List Nat) (d:zcZ x.N ops=true) (h:zzn x ops (fun b=>Q .normal b) n ops st):T x st (.region id ops.toArray false) Q:=by
 unfold T
 intro a W e
 exact wp_region_lit (zzp (fun b g i f c=>⟨b,f,c⟩) d h e)
theorem zzr {id:Nat} {ops:List Oper} {d:Code} (n:List Nat) (b:zcZ x.N ops=true) (h:zzn x ops (fun a=>T x a d Q) n ops st):T x st (.seq (.region id ops.toArray false) d) Q :=
 zc3 (zzq n b h)
end
attribute [irreducible] zzk zzh
theorem zzs {x:Cx} {st:St} {s d:TypeId} {r:Nat} {e:TypeId} {n:Nat} {ns:List Int} {xs:List Value} {a:TypeId} {K:Value→Prop} (b:look r st.p=some (.row e 1 n xs)) (f:xs=ns.map (Value.int .u8))
  (g:x.P.underlying s=some (.slice a)) (h2:x.P.underlying a=some (.int .u8)) (h:x.P.underlying d=some .string) (i:K (.string (bstr ns))):zzk x st s d (.c (.s r)) K:=by
 unfold zzk;subst f;exact ⟨r,e,n,ns,a,rfl,b,g,h2,h,i⟩
theorem zzt {x:Cx} {st:St} {t:Nat} {K:St→Prop} (e:TypeId) (a:Nat) (b:look t st.e=some (true,.c (.v (.slice none 0 0)))) (d:K ⟨(t,true,.c (.s st.nx)) :: st.e,(st.nx,.row e a 0 []) :: st.p,st.h,st.nx+1⟩):zzh x st t K:=by
 unfold zzh;exact ⟨_,b,.inl ⟨rfl,e,a,d⟩⟩
theorem zzu {x:Cx} {st:St} {t:Nat} {K:St→Prop} {b n cap:Nat} {cur:Array Value} {e:TypeId} (a:Nat) (g:look t st.e=some (true,.c (.v (.slice (some ⟨b,0,none⟩) n cap)))) (i:st.h b=some (.cells cur e (0,0)))
  (d:x.h0 b=none∨x.W0.own b) (f:cur.size=cap * a) (j:n≤cap) (k:cap≤maxLen)
  (l:K ⟨(t,true,.c (.s st.nx)) :: st.e,(st.nx,.row e a n (cur.toList.take (n * a))) :: st.p,st.h.del b,st.nx+1⟩):zzh x st t K:=by
 unfold zzh;exact ⟨_,g,.inr ⟨b,n,cap,cur,e,a,rfl,i,d,f,j,k,l⟩⟩
section
variable {x:Cx} {st:St} {o:Oper} {l ops:List Oper} {m:Nat} {ms:List Nat} {K:St→Prop}
@[go_sem] theorem zzv:zzn x ops K [] l st=vops x.P ops l st K:=by cases l <;> rfl
@[go_sem] theorem zzw:zzn x ops K (m :: ms) (o :: l) st=vopM x ops st o (fun a=>zzn x ops K ms l a) m:=rfl
@[go_sem] theorem zzx:vopM x ops st o K 0=vop x.P ops st o K:=rfl
@[go_sem] theorem zzy:vopM x ops st o K 1=vopX x st o K:=rfl
@[go_sem] theorem zzz:vopM x ops st o K 2=vop x.P ops st o fun a=>vpub a o.dst K:=rfl
@[go_sem] theorem zzA:vopM x ops st o K 3=onD (zzj o) fun t=>zzh x st t fun a=>vop x.P ops a o fun b=>vpub b o.dst K:=rfl
@[go_sem] theorem zzB:vopM x ops st o K 5=onD (zzj o) fun t=>zzh x st t fun a=>vop x.P ops a o K:=rfl
@[go_sem] theorem zzC:vopM x ops st o K 4=zzl x st o K:=rfl
@[go_sem] theorem zzD {d:Option Nat} {t:Tmp} {y:Operand} {a:Array TypeId} {ty:TypeId} {p:String} {b:Array Edge} {c:Option (Nat × Bool)}:zzj ⟨d,.call ⟨.builtin .append,#[.tmp t,y],a⟩,ty,p,b,c⟩=some t:=rfl
@[go_sem] theorem zzE {d:Option Nat} {s a:TypeId} {y:Operand} {ty:TypeId} {p:String} {b:Array Edge}:zzl x st ⟨d,.convert s a y,ty,p,b,none⟩ K=getO st true y fun f=>zzk x st s a f fun v=>K (St.mk (zb5 st.e d true (.c (.v v))) st.p st.h st.nx):=by
 unfold zzl;simp
@[congr] theorem zzF {a:St} (h:st=a):zzn x ops K ms l st=zzn x ops K ms l a:=by rw [h]
end
open Go Go.RowKit
def zzG (ops:Array Oper):Nat→Nat→Nat→Bool
 | 0,_,_=>false
 | f+1,k,i=>match ops[k]? with
  | some o=>o.after.toList.any fun e=>Region.binds .any e && (e.on == i || zzG ops f e.on i)
  | none=>false
def Closed (ops:Array Oper) (l:Array Bool):Prop:=∀ k o,ops[k]?=some o→l.getD k false=true→∀ e ∈ o.after,Region.binds .any e=true→l.getD e.on false=true
theorem zzH {ops:Array Oper} {l:Array Bool} (c:Closed ops l) {i:Nat} (d:l.getD i false=false):∀ {f k:Nat},l.getD k false=true→zzG ops f k i=false
 | 0,_,_=>rfl
 | f+1,k,g=>by
  unfold zzG
  split
  ·rename_i o h
   rw [List.any_eq_false]
   intro e j a
   simp only [jJ,jQ,beq_iff_eq] at a
   have b:=c k o h g e (by simpa using j) a.1
   rcases a.2 with h2|h2
   ·rw [h2,d] at b;cases b
   ·rw [zzH c d b] at h2;cases h2
  ·rfl
theorem zzI {l:Array Bool} {i:Nat} (h:l.getD i true=false):l.getD i false=false:=by
 rcases wv i l.size with h'|h'
 ·simpa [Array.getD,h'] using h
 ·simp [Array.getD,Nat.not_lt.2 h'] at h
theorem zzJ {l:Array Bool} {i k:Nat} (h:l.getD k false=true):(l.setIfInBounds i true).getD k false=true:=by
 simp only [yL] at h ⊢
 by_cases e:i=k
 ·subst e
  rcases wv i l.size with h'|h'
  ·simp [h']
  ·simp [Array.getElem?_eq_none h'] at h
 ·rw [uB e];exact h
theorem zzK {l:Array Bool} {i k:Nat} (e:i ≠ k):(l.setIfInBounds i true).getD k false=l.getD k false:=by
 simp only [yL]
 rw [uB e]
theorem zzL {ops:Array Oper} {l:Array Bool} (g:Closed ops l) {i j:Nat} (d:l.getD i false=false) (h:j ∈ Region.ready .any ops l):∀ {f:Nat},zzG ops f j i=false
 | 0=>rfl
 | f+1=>by
  obtain ⟨_,o,k,a⟩:=mem_ready.1 h
  unfold zzG
  rw [k]
  rw [List.any_eq_false]
  intro e m b
  simp only [jJ,jQ,beq_iff_eq] at b
  have c:=a e (by simpa using m) b.1
  rcases b.2 with h2|h2
  ·rw [h2,d] at c;cases c
  ·rw [zzH g d c] at h2;cases h2
theorem Closed.set {ops:Array Oper} {l:Array Bool} (i:Closed ops l) {j:Nat} (m:j ∈ Region.ready .any ops l):Closed ops (l.setIfInBounds j true):=by
 intro k o c d e f g
 by_cases h:j=k
 ·subst h
  obtain ⟨_,n,a,b⟩:=mem_ready.1 m
  rw [c] at a;cases a
  exact zzJ (b e f g)
 ·rw [zzK h] at d
  exact zzJ (i k o c d e f g)
def zzM (P:Program) (ops:Array Oper) (Q:Exit→Act→World→Prop) (S:Array Bool→World→Prop):Nat→Array Bool→Act→World→Prop
 | 0,listed,a,w=>Region.ready .any ops listed=[]∧Q .normal a w
 | fuel+1,listed,a,w =>
  (Region.ready .any ops listed=[]→Q .normal a w) ∧
  ∀ i ∈ Region.ready .any ops listed,wpOp P ops Q i (fun a' w'=>S (listed.setIfInBounds i true) w'∧zzM P ops Q S fuel (listed.setIfInBounds i true) a' w') a w
section
variable {P:Program} {ops:Array Oper} {Q:Exit→Act→World→Prop} {S S':Array Bool→World→Prop}
theorem zzN:∀ (fuel:Nat) (listed:Array Bool) (a:Act) (w:World),zzM P ops Q S fuel listed a w→wpAny P .any ops Q fuel listed a w
 | 0,_,_,_,h=>h
 | fuel+1,_,_,_,h=>⟨h.1,fun i b=>wpOp_mono (fun c w' h'=>zzN fuel _ c w' h'.2) (h.2 i b)⟩
theorem zzO {i:Nat} {f:Oper} {v:Value} {G:World→Prop} (M:ops[i]?=some f) (q:∀ (j:Nat) (o:Oper) cs b,ops[j]?=some o→o.op ≠ .select cs b)
  (hQ:∀ c a w,Q (.panic c) (a.put f.dst v) w→Q (.panic c) a w)
  (hG:∀ (l:Array Bool) (j:Nat) (w:World),Closed ops l→l.getD i false=false→j ∈ Region.ready .any ops l→j ≠ i→S' ((l.setIfInBounds i true).setIfInBounds j true) w→G w)
  (hS:∀ (l:Array Bool) (j:Nat) (w:World),S' ((l.setIfInBounds i true).setIfInBounds j true) w→S (l.setIfInBounds j true) w)
  (hA:∀ (l:Array Bool) (w:World),S l w→S (l.setIfInBounds i true) w)
  (W:∀ (fuel:Nat) (l:Array Bool) (a:Act) (w:World),zzM P ops Q S' fuel (l.setIfInBounds i true) a w→zzM P ops Q S fuel (l.setIfInBounds i true) a w) :
  ∀ (fuel:Nat) (listed:Array Bool) (a:Act) (w:World),
   (∀ j g,ops[j]?=some g→j ≠ i→listed.getD j true=false→(∀ e ∈ g.after,Region.binds .any e=true→e.on ≠ i)→f.apart ops g=true) →
   Closed ops listed→i ∈ Region.ready .any ops listed→YieldsIf P ops G f v a→G w→S (listed.setIfInBounds i true) w →
   zzM P ops Q S' fuel (listed.setIfInBounds i true) (a.put f.dst v) w→zzM P ops Q S (fuel+1) listed a w:=by
 intro fuel
 induction fuel with
 | zero =>
  intro listed a w _ N m z r s H
  refine ⟨fun h=>(by rw [h] at m;cases m),fun j p=>?_⟩
  by_cases d:j=i
  ·subst d;exact z.wpOp M r ⟨s,W _ _ _ _ H⟩
  ·have:=ready_mono p d
   rw [H.1] at this
   cases this
 | succ fuel ih =>
  intro listed a w n N m z r s H
  have t:listed.getD i false=false:=zzI (mem_ready.1 m).1
  refine ⟨fun h=>(by rw [h] at m;cases m),fun j p=>?_⟩
  by_cases d:j=i
  ·subst d;exact z.wpOp M r ⟨s,W _ _ _ _ H⟩
  ·have D:=H.2 j (ready_mono p d)
   obtain ⟨u,g,x,O⟩:=mem_ready.1 p
   have R:∀ e ∈ g.after,Region.binds .any e=true→e.on ≠ i:=fun e he hb X=>by
    have D:=O e he hb
    rw [X,t] at D
    cases D
   have h2:=wpOp_putIf x (n j g x d u R) (fun cs b=>q i f cs b M) (fun cs b=>q j g cs b x) hQ z D
   have y:∀ k ok,ops[k]?=some ok→k ≠ i→(listed.setIfInBounds j true).getD k true=false →
     (∀ e ∈ ok.after,Region.binds .any e=true→e.on ≠ i)→f.apart ops ok=true:=fun k ok hk Y J Z=>by
    refine n k ok hk Y ?_ Z
    by_cases K:j=k
    ·subst K;exact u
    ·rw [getD_set_ne true K] at J;exact J
   refine wpOp_mono (fun a' w' F=>?_) h2
   have s1:=hS listed j w' F.2.1
   refine ⟨s1,ih (listed.setIfInBounds j true) a' w' y (N.set p) (ready_mono m (Ne.symm d)) F.1 (hG listed j w' N t p d F.2.1) (hA _ _ s1) ?_⟩
   rw [Array.setIfInBounds_comm _ _ d]
   exact F.2.2
end
abbrev TkI:=Nat × Tk
def zzP (ops:Array Oper) (tk:List Nat) (l:Array Bool) (i:Nat):Bool:=(wg ops.size).any fun k=>l.getD k false && !tk.contains k && zzG ops ops.size k i
def SS (P:Program) (ops:Array Oper) (tk:List Nat) (D:List TkI) (l:Array Bool) (W:World):Prop :=
 ∀ t ∈ D,zzP ops tk l t.1=false→Region.wanted t.2.1 (yielded ops t.2.2.2.tmps)=true→(execOp t.2.2.2.eval t.2.1).run P W=.ok (.value t.2.2.1) W
theorem zzQ {ops:Array Oper} {tk:List Nat} {l:Array Bool} {i:Nat}:zzP ops tk l i=false ↔ ∀ k,k < ops.size→l.getD k false=true→k ∉ tk→zzG ops ops.size k i=false:=by
 unfold zzP
 rw [List.any_eq_false]
 constructor
 ·intro h k a c h2
  have:=h k (List.mem_range.2 a)
  simp only [c,qp,jJ,jd,Jb,JH,not_and,Bool.not_eq_true] at this
  exact this h2
 ·intro h k a
  have a:=List.mem_range.1 a
  intro b
  simp only [jJ,jd,Jb,JH] at b
  rw [h k a b.1.1 b.1.2] at b
  cases b.2
theorem zzR {P:Program} {ops:Array Oper} {Q:Exit→Act→World→Prop} {S S':Array Bool→World→Prop} (h:∀ l w,S' l w→S l w):∀ (fuel:Nat) (listed:Array Bool) (a:Act) (w:World),zzM P ops Q S' fuel listed a w→zzM P ops Q S fuel listed a w
 | 0,_,_,_,H=>H
 | fuel+1,_,_,_,H=>⟨H.1,fun i b=>wpOp_mono (fun c w' h'=>⟨h _ _ h'.1,zzR h fuel _ c w' h'.2⟩) (H.2 i b)⟩
def nmv (ops:List Oper) (k:Nat):Bool:=match ops[k]? with|some o=>!isMv o.op|none=>false
@[irreducible] def U (x:Cx) (ops:List Oper) (tk:List Nat) (fuel:Nat) (listed:Array Bool) (st:St) (K:St→Prop):Prop :=
 ∀ (D:List TkI),D.map (·.1)=tk.filter (nmv ops)→(∀ t ∈ D,ops[t.1]?=some t.2.1)→Closed ops.toArray listed→(∀ k ∈ tk,listed.getD k false=true) →
  ∀ a W,Conc x.W0 x.h0 x.N st a W→FrD ops.toArray (D.map (·.2)) a→SS x.P ops.toArray tk D listed W →
  zzM x.P ops.toArray (QN x K) (SS x.P ops.toArray tk D) fuel listed a W
def zzS (ops:List Oper) (tk:List Nat) (o:Oper):Bool:=tk.all fun k=>!nmv ops k || match ops[k]? with|some t=>ziE t && ziH ops.toArray t o|none=>false
theorem zzT {ops:List Oper} {tk:List Nat} {o:Oper} {D:List TkI} (h:zzS ops tk o=true) (e:D.map (·.1)=tk.filter (nmv ops)) (c:∀ t ∈ D,ops[t.1]?=some t.2.1):∀ t ∈ D.map (·.2),ziE t.1=true∧ziH ops.toArray t.1 o=true:=by
 intro t f
 obtain ⟨d,a,rfl⟩:=List.mem_map.1 f
 have b:d.1 ∈ tk.filter (nmv ops):=by rw [← e];exact uX a
 obtain ⟨b,h2⟩:=List.mem_filter.1 b
 have:=List.all_eq_true.1 h _ b
 rw [h2,c d a] at this
 simpa using this
def zzU (ops:List Oper) (listed:Array Bool) (tk:List Nat) (i:Nat) (o:Oper) (N:Nat):Bool :=
 Region.noSelect ops.toArray && Region.free .any ops.toArray listed i && (Region.ready .any ops.toArray listed).contains i && isQ o.op && ziE o && ziL ops o N && zzS ops tk o && !tk.contains i
section
variable {x:Cx} {ops:List Oper} {tk:List Nat} {fuel:Nat} {listed:Array Bool} {st:St} {K:St→Prop}
theorem zzV (i:Nat) {o:Oper} (hi:ops[i]?=some o) (ac:zzU ops listed tk i o x.N=true)
  (h:isQ o.op=true→st.wf=true→∃ g sv,U x ops (i :: tk) fuel (listed.setIfInBounds i true) (st.put o.dst g sv) K∧sv.lt st.nx=true∧(g=true→Yv x.P x.W0 x.h0 x.N st o sv)∧∀ ρ a,FOk x.N ρ st.e a→Region.wanted o (yielded ops.toArray a.tmps)=g):U x ops tk (fuel+1) listed st K:=by
 unfold U at *
 intro D hD ae ag an a W hC hF hS
 simp only [zzU,jJ] at ac
 obtain ⟨⟨⟨⟨⟨⟨⟨c1,c2⟩,c3⟩,c4⟩,c5⟩,y⟩,c7⟩,c8⟩:=ac
 have c8:i ∉ tk:=by simpa using c8
 obtain ⟨ρ,hf,hW,hwf⟩:=hC
 obtain ⟨g,sv,k1,k2,k3,J⟩:=h c4 hwf
 replace J:=J ρ a hf
 unfold ziL at y
 split at y
 case h_2=>cases y
 rename_i d hd
 simp only [jJ,JD,jd,Jb,JH] at y
 have ah:ops.toArray[i]?=some o:=by simpa using hi
 have hr:i ∈ Region.ready .any ops.toArray listed:=by simpa using c3
 have ai:listed.getD i false=false:=zzI (mem_ready.1 hr).1
 have aj:i < listed.size:=by
  have:=(mem_ready.1 hr).1
  rcases wv i listed.size with h'|h'
  ·exact h'
  ·simp [Array.getD,Nat.not_lt.2 h'] at this
 let v:Value:=if g=true then sv.conc ρ else undef
 have ao:Conc x.W0 x.h0 x.N (st.put o.dst g sv) (a.put o.dst v) W:=Conc.put_q hwf (fun O e=>by rw [hd] at e;cases e;exact y.1) hf hW k2 rfl
 have Q:∀ O,o.dst=some O→O ∉ o.looksAt ops.toArray:=fun O e=>by rw [hd] at e;cases e;exact y.2
 let m:List TkI:=if nmv ops i=true then (i,o,v,a) :: D else D
 have q:∀ t,t ∈ m→t=(i,o,v,a)∧nmv ops i=true∨t ∈ D:=by
  intro t b
  simp only [m] at b
  split at b
  ·rename_i M
   rcases List.mem_cons.1 b with rfl|b
   ·exact .inl ⟨rfl,M⟩
   ·exact .inr b
  ·exact .inr b
 have R:∀ t,t ∈ D→t ∈ m:=by
  intro t b
  simp only [m]
  split
  ·exact qg _ b
  ·exact b
 have aa:FrD ops.toArray (D.map (·.2)) (a.put o.dst v):=hF.put (zzT c7 hD ae)
 have ap:FrD ops.toArray (m.map (·.2)) (a.put o.dst v):=by
  intro t b
  obtain ⟨t',X,rfl⟩:=List.mem_map.1 b
  rcases q t' X with ⟨rfl,_⟩|X
  ·refine ⟨execOp_put o (ziF c5) a o.dst v Q,wanted_put o a o.dst v Q,fun O e=>?_⟩
   simp only at e
   rw [hd] at e;cases e
   have aq:d < a.tmps.size:=by rw [hf.2.1];exact y.1
   simp [Act.put,hd,aq]
  ·exact aa _ (uX X)
 have au:m.map (·.1)=(i :: tk).filter (nmv ops):=by
  simp only [m,List.filter_cons]
  split
  ·rw [wx,hD]
  ·exact hD
 have ak:∀ t ∈ m,ops[t.1]?=some t.2.1:=by
  intro t b
  rcases q t b with ⟨rfl,_⟩|b
  ·exact hi
  ·exact ae t b
 have al:∀ k ∈ i :: tk,(listed.setIfInBounds i true).getD k false=true:=by
  intro k n
  rcases List.mem_cons.1 n with rfl|n
  ·simp [Array.getD,aj]
  ·exact zzJ (an k n)
 have z:g=true→(execOp a.eval o).run x.P W=.ok (.value v) W:=fun p=>by
  have:=k3 p ρ a W hf hW
  simp only [v,p,if_true]
  exact this
 have Y:∀ (l:Array Bool) (w:World),SS x.P ops.toArray tk D l w→SS x.P ops.toArray tk D (l.setIfInBounds i true) w:=by
  intro l w h t b r
  refine h t b (zzQ.2 fun k n f h2=>zzQ.1 r k n (zzJ f) h2)
 have ab:∀ (l:Array Bool) (w:World),SS x.P ops.toArray (i :: tk) m l w→SS x.P ops.toArray tk D l w:=by
  intro l w h t b r
  exact h t (R t b) (zzQ.2 fun k n f h2=>zzQ.1 r k n f (fun e=>h2 (qg _ e)))
 have av:SS x.P ops.toArray (i :: tk) m (listed.setIfInBounds i true) W:=by
  intro t b r hw
  rcases q t b with ⟨rfl,_⟩|b
  ·exact z (by rw [← J];exact hw)
  ·refine hS t b (zzQ.2 fun k n f h2=>zzQ.1 r k n (zzJ f) (fun e=>?_)) hw
   rcases List.mem_cons.1 e with rfl|e
   ·rw [ai] at f;cases f
   ·exact h2 e
 let G:World→Prop:=fun w=>g=true→(execOp a.eval o).run x.P w=.ok (.value v) w
 have hy:YieldsIf x.P ops.toArray G o v a:=by
  cases F:g with
  | true=>exact .inl ⟨by rw [J,F],fun w hw=>hw F⟩
  | false=>exact .inr ⟨by rw [J,F],by simp [v,F]⟩
 have am:nmv ops i=false→∀ w,G w:=fun M w p=>by
  have hm:isMv o.op=true:=by simpa [nmv,hi] using M
  exact ziR hm (z p) w
 have H:=k1 m au ak (ag.set hr) al _ W ao ap av
 refine zzO (G:=G) ah (Region.noSelect_spec c1) ?_ (fun l j w Z hl hj ax r=>?_) (fun l j w r=>?_) Y (fun fuel l a w h=>zzR ab fuel _ a w h) fuel listed a W (Region.free_spec ah c2) ag hr hy z (Y _ _ hS) H
 ·rintro c a' w ⟨e,_⟩
  cases e
 ·cases M:nmv ops i with
  | false=>exact am M w
  | true =>
   intro p
   have hm:(i,o,v,a) ∈ m:=by simp [m,M]
   refine r _ hm (zzQ.2 fun k n f h2=>?_) (by rw [← p];exact J)
   have s:i ≠ k:=fun e=>h2 (by rw [e];exact qC ..)
   by_cases u:j=k
   ·subst u;exact zzL Z hl hj
   ·rw [zzK u,zzK s] at f
    exact zzH Z hl f
 ·intro t b aw
  refine r t (R t b) (zzQ.2 fun k n f h2=>zzQ.1 aw k n ?_ (fun e=>h2 (qg _ e)))
  have s:i ≠ k:=fun e=>h2 (by rw [e];exact qC ..)
  by_cases u:j=k
  ·subst u
   rw [Array.setIfInBounds_comm _ _ s,zzK s] at f
   exact f
  ·rw [zzK u,zzK s] at f
   exact zzJ f
def zzW (ops:List Oper) (N:Nat):List (Nat × Oper)→Nat→Array Bool→List Nat→Bool
 | [],_,_,_=>true
 | _ :: _,0,_,_=>false
 | (i,o) :: l,fuel+1,listed,tk=>zzU ops listed tk i o N && zzW ops N l fuel (listed.setIfInBounds i true) (i :: tk)
def tkA:List Nat→List Nat→List Nat
 | [],tk=>tk
 | i :: l,tk=>tkA l (i :: tk)
theorem zzX {e:St→Prop}:∀ {l:List (Nat × Oper)} {fuel:Nat} {listed:Array Bool} {tk:List Nat} {st:St},(∀ c ∈ l,ops[c.1]?=some c.2)→zzW ops x.N l fuel listed tk=true →
  vops x.P ops (l.map (·.2)) st e→(∀ b,e b→U x ops (tkA (l.map (·.1)) tk) (fuel - l.length) (zi0 l listed) b K)→U x ops tk fuel listed st K
 | [],fuel,listed,tk,st,_,_,h,d=>d _ h
 | _ :: _,0,_,_,_,_,a,_,_=>by simp [zzW] at a
 | (i,o) :: l,fuel+1,listed,tk,st,f,a,h,d=>by
  simp only [zzW,jJ] at a
  refine zzV i (f _ (qC ..)) a.1 fun k j=>?_
  obtain ⟨g,sv,m,n⟩:=ziP (W0:=x.W0) (h0:=x.h0) (N:=x.N) k j h
  exact ⟨g,sv,zzX (fun c p=>f c (qg _ p)) a.2 m (fun b h'=>by simpa [tkA,zi0] using d b h'),n⟩
theorem zzY (c:List Nat) {l:List (Nat × Oper)} (d:ziW ops c=some l) (a:zzW ops x.N l fuel listed tk=true)
  (h:vops x.P ops (l.map (·.2)) st fun b=>U x ops (tkA (l.map (·.1)) tk) (fuel - l.length) (zi0 l listed) b K):U x ops tk fuel listed st K :=
 zzX (zi1 d) a h fun _ h=>h
def zzZ (ops:List Oper) (tk:List Nat) (l:Array Bool):List Nat:=(tk.filter (nmv ops)).filter fun k=>!zzP ops.toArray tk l k
def zz0 (x:Cx) (ops:List Oper) (tk:List Nat) (l:Array Bool) (st:St):Prop:=∃ ls,ziW ops (zzZ ops tk l)=some ls∧vre x.P ops st (ls.map (·.2))
theorem zz1 {D:List TkI} {a:Act} {W:World} (z:D.map (·.1)=tk.filter (nmv ops)) (n:∀ t ∈ D,ops[t.1]?=some t.2.1) (F:Conc x.W0 x.h0 x.N st a W) (G:FrD ops.toArray (D.map (·.2)) a) (h:zz0 x ops tk listed st):SS x.P ops.toArray tk D listed W:=by
 obtain ⟨H,J,h⟩:=h
 intro t k K
 have M:t.1 ∈ zzZ ops tk listed:=by
  refine List.mem_filter.2 ⟨?_,by rw [K];rfl⟩
  rw [← z];exact uX k
 have p:t.2.1 ∈ H.map (·.2):=by
  have q:∀ {c:List Nat} {l:List (Nat × Oper)},ziW ops c=some l→∀ i ∈ c,∀ o,ops[i]?=some o→o ∈ l.map (·.2):=by
   intro c
   induction c with
   | nil=>intro l _ i d;cases d
   | cons j c m =>
    intro l f i d o b
    simp only [ziW] at f
    split at f
    ·rename_i O Y r s
     simp only [Option.some.injEq] at f
     subst f
     rcases List.mem_cons.1 d with rfl|d
     ·rw [r] at b;cases b;exact qC ..
     ·exact qg _ (m s i d o b)
    ·cases f
  exact q J _ M _ (n t k)
 have u:∀ {l:List Oper},vre x.P ops st l→∀ o ∈ l,isQ o.op=true∧(vop x.P ops st o fun w=>dstE o st.e w.e):=by
  intro l
  induction l with
  | nil=>intro _ o b;cases b
  | cons O l m =>
   intro g o b
   rcases List.mem_cons.1 b with rfl|b
   ·exact ⟨g.1,g.2.1⟩
   ·exact m g.2.2 o b
 obtain ⟨Q,g⟩:=u h _ p
 have R:=ziJ (D:=[t.2]) F (fun X y=>G X (by rw [List.mem_singleton.1 y];exact uX k)) ⟨Q,g,trivial⟩
 exact R t.2 (List.mem_singleton.2 rfl)
theorem zz2 (i m:Nat) {o:Oper} (Q:ops[i]?=some o) (G:Region.ready .any ops.toArray listed=[i]) (l:(zzS ops tk o && (match o.dst with|some d=>decide (d < x.N)|none=>true))=true)
  (h:vopM x ops st o (fun n=>zz0 x ops tk (listed.setIfInBounds i true) n∧U x ops tk fuel (listed.setIfInBounds i true) n K) m):U x ops tk (fuel+1) listed st K:=by
 simp only [jJ] at l
 unfold U at *
 intro D p b r H a W R J hS
 refine ⟨fun h0=>(by rw [G] at h0;cases h0),fun j t=>?_⟩
 have s:=t
 rw [G] at t
 obtain rfl:=List.mem_singleton.1 t
 have M:ops.toArray[j]?=some o:=by simpa using Q
 have X:∀ w,o.dst=some w→w < x.N:=by
  intro w e
  have:=l.2
  rw [e] at this
  simpa using this
 have q:∀ k ∈ tk,(listed.setIfInBounds j true).getD k false=true:=fun k Y=>zzJ (H k Y)
 unfold wpOp
 simp only [M]
 rcases zzo (QQ:=QN x K) X h R with ⟨y,O⟩|⟨y,n,⟨z,F⟩,c⟩
 ·rw [if_pos y]
  left
  refine Oper.wp_mono ?_ (ziK O)
  rintro a' Z ⟨⟨u,ds,rfl⟩,n,⟨z,F⟩,c⟩
  have f:FrD ops.toArray (D.map (·.2)) (Act.put { a with defers:=ds } o.dst u):=FrD.put (FrD.defers J) (zzT l.1 p b)
  have g:=zz1 p b c f z
  exact ⟨g,F D p b (r.set s) q _ Z c f g⟩
 ·rw [if_neg (by simp [y])]
  have f:FrD ops.toArray (D.map (·.2)) (a.put o.dst undef):=J.put (zzT l.1 p b)
  have g:=zz1 p b c f z
  exact ⟨g,F D p b (r.set s) q _ W c f g⟩
theorem zz3 (i m:Nat) (f:List Nat) {o:Oper} {l:List (Nat × Oper)} (n:ops[i]?=some o) (p:Region.ready .any ops.toArray listed=[i]) (g:(zzS ops tk o && (match o.dst with|some d=>decide (d < x.N)|none=>true))=true)
  (j:zzZ ops tk (listed.setIfInBounds i true)=f) (k:ziW ops f=some l)
  (h:vopM x ops st o (fun a=>vre x.P ops a (l.map (·.2))∧U x ops tk fuel (listed.setIfInBounds i true) a K) m):U x ops tk (fuel+1) listed st K:=by
 refine zz2 i m n p g ?_
 subst j
 have e:(fun a=>vre x.P ops a (l.map (·.2))∧U x ops tk fuel (listed.setIfInBounds i true) a K)=(fun a=>zz0 x ops tk (listed.setIfInBounds i true) a∧U x ops tk fuel (listed.setIfInBounds i true) a K):=by
  funext a
  apply propext
  constructor
  ·rintro ⟨c,h2⟩;exact ⟨⟨l,k,c⟩,h2⟩
  ·rintro ⟨⟨q,b,c⟩,h2⟩;rw [k] at b;cases b;exact ⟨c,h2⟩
 rw [← e];exact h
theorem zz4 (b:Region.ready .any ops.toArray listed=[]) (h:K st):U x ops tk fuel listed st K:=by
 unfold U
 intro D g d e f a W c i j
 match fuel with
 | 0=>exact ⟨b,rfl,st,h,c⟩
 | _+1=>exact ⟨fun _=>⟨rfl,st,h,c⟩,by rw [b];simp⟩
theorem zz5 {Q:Exit→St→Prop} {id:Nat} (i:x.P.follows .mixedOrders=true) (h:U x ops [] ops.length (Array.replicate ops.length false) st fun b=>Q .normal b):T x st (.region id ops.toArray true) Q:=by
 unfold T
 unfold U at h
 intro a W j
 have f:Closed ops.toArray (Array.replicate ops.length false):=by
  intro k o _ c
  simp only [yL,Array.getElem?_replicate] at c
  split at c <;> cases c
 have H:=h [] rfl (fun t d=>by cases d) f (fun k c=>by cases c) a _ j.drew (fun t d=>by cases d) (fun t d=>by cases d)
 refine Code.wp_mono ?_ (wp_region_any (id:=id) (Q:=QN x fun b=>Q .normal b) i (zzN _ _ _ _ H))
 rintro e m n ⟨rfl,b,l,g⟩
 exact ⟨b,l,g⟩
end
@[go_sem] theorem zz6 {tk:List Nat}:tkA [] tk=tk:=rfl
@[go_sem] theorem zz7 {i:Nat} {l tk:List Nat}:tkA (i :: l) tk=tkA l (i :: tk):=rfl
@[congr] theorem zz8 {x:Cx} {ops:List Oper} {tk:List Nat} {fuel:Nat} {listed:Array Bool} {st a:St} {K:St→Prop} (h:st=a):U x ops tk fuel listed st K=U x ops tk fuel listed a K:=by rw [h]
theorem U_1 {x:Cx} {ops:List Oper} {tk:List Nat} {fuel:Nat} {listed:Array Bool} {st:St} {K:St→Prop} (i m:Nat) (b:List Nat) {o:Oper} {l:List (Nat × Oper)} (f:ops[i]?=some o) (g:ziW ops b=some l)
  (h:vopM x ops st o (fun a=>vre x.P ops a (l.map (·.2))∧U x ops tk fuel (listed.setIfInBounds i true) a K) m) (j:Region.ready .any ops.toArray listed=[i]:=by kernel_rfl) (c:(zzS ops tk o && (match o.dst with|some d=>decide (d < x.N)|none=>true))=true:=by kernel_rfl)
  (e:zzZ ops tk (listed.setIfInBounds i true)=b:=by kernel_rfl):U x ops tk (fuel+1) listed st K:=zz3 i m b f j c e g h
theorem U_t {x:Cx} {ops:List Oper} {tk:List Nat} {fuel:Nat} {listed:Array Bool} {st:St} {K:St→Prop} (a:List Nat) {l:List (Nat × Oper)} (d:ziW ops a=some l)
  (h:vops x.P ops (l.map (·.2)) st fun b=>U x ops (tkA (l.map (·.1)) tk) (fuel - l.length) (zi0 l listed) b K) (c:zzW ops x.N l fuel listed tk=true:=by kernel_rfl):U x ops tk fuel listed st K:=zzY a d c h
theorem U_d {x:Cx} {ops:List Oper} {tk:List Nat} {fuel:Nat} {listed:Array Bool} {st:St} {K:St→Prop} (h:K st) (a:Region.ready .any ops.toArray listed=[]:=by kernel_rfl):U x ops tk fuel listed st K:=zz4 a h
open Go Go.RowKit
instance:Enc Bool where
 size:=1
 enc n:=[.bool n]
 len _:=rfl
 one n u hu:=by simp only [ya] at hu;subst hu;rfl
 ok _ n:=True
 mono _ H:=H
@[go_sem] theorem zC0 {b:Bool}:Enc.enc b=[.bool b]:=rfl
theorem zC1 {h:Hp} {s:Sl Bool} (H:s.Ok h) {i:Nat} (b:i < s.l.length):h.lds (qe (·.add (i * 1)) s.a) 1=some [.bool s.l[i]]:=H.at b
instance:Foot Bool:=⟨fun _=>[],fun _ _=>True,fun H _ _=>⟨H,trivial⟩,fun _ b hb=>by cases hb⟩
theorem zC2 {α:Type} [Enc α] {l0:List α} {w w':α} {o:Nat} {new:List Value} (h:zbG o new (Enc.enc w)=Enc.enc w') (b:o+new.length≤Enc.size α) :
  zbG (l0.length * Enc.size α+o) new ((l0 ++ [w]).flatMap Enc.enc)=(l0 ++ [w']).flatMap Enc.enc:=by
 have a:(l0.flatMap Enc.enc).length=l0.length * Enc.size α:=ziq Enc.len _
 have c:=Enc.len w
 simp only [jF,wV,uH,yJ]
 rw [← h]
 unfold zbG
 rw [List.take_append,List.drop_append,a]
 rw [qy (by omega),Jf (by omega)]
 rw [show l0.length * Enc.size α+o - l0.length * Enc.size α=o by omega,show l0.length * Enc.size α+o+new.length - l0.length * Enc.size α=o+new.length by omega]
 simp
open Go Go.RowKit
def RowAt {α:Type} [Enc α] (e:TypeId) (h:Hp) (s:Sl α):Prop :=
 s.l.length≤s.cap∧s.cap≤maxLen∧((s.a=none∧s.l=[]∧s.cap=0)∨∃ g cur,s.a=some ⟨g,0,none⟩∧h g=some (.cells cur e (0,0))∧cur.size=s.cap * Enc.size α∧cur.toList.take (s.l.length * Enc.size α)=s.l.flatMap Enc.enc)
def zD4 {α:Type} (h:Hp) (s:Sl α):Hp:=match s.a with|some a=>h.del a.block|none=>h
section
variable {α:Type} [Enc α]
theorem RowAt.ok {e:TypeId} {h:Hp} {s:Sl α} (k:0 < Enc.size α) (H:RowAt e h s) (b:∀ x ∈ s.l,Enc.ok h x):s.Ok h:=by
 obtain ⟨m,h2,⟨f,n,F⟩|⟨g,cur,f,t,D,o⟩⟩:=H
 ·refine ⟨m,fun p=>(p n).elim,fun i x a=>by rw [n] at a;simp at a,b,h2⟩
 ·refine ⟨m,fun _=>by rw [f];rfl,fun i x a=>?_,b,h2⟩
  have u:i < s.l.length:=(List.getElem?_eq_some_iff.1 a).1
  rw [f]
  refine zad (Enc.len x) fun j v q=>?_
  have c:j < Enc.size α:=by rw [← Enc.len x];exact (List.getElem?_eq_some_iff.1 q).1
  have d:(s.l.flatMap Enc.enc)[i * Enc.size α+j]?=some v:=by
   rw [zio Enc.len k]
   have w:(i * Enc.size α+j) / Enc.size α=i:=by rw [uV,Nat.add_mul_div_right _ _ k,Nat.div_eq_of_lt c,jb]
   have y:(i * Enc.size α+j) % Enc.size α=j:=by rw [uV,JY,uv c]
   rw [w,y,a]
   exact q
  have r:i * Enc.size α+j < s.l.length * Enc.size α:=by
   have:(i+1) * Enc.size α≤s.l.length * Enc.size α:=wP _ u
   rw [yP,JQ] at this
   omega
  rw [← o,yF,if_pos r] at d
  simp only [qq]
  rw [zir,jb]
  have z:(Addr.add ⟨g,0,none⟩ (i * Enc.size α+j))=⟨g,i * Enc.size α+j,none⟩:=by rw [za4];simp
  rw [z]
  simp only [Hp.cell,t,yG,qW,if_false]
  simpa using d
theorem RowAt.keep {e:TypeId} {h h':Hp} {s:Sl α} (H:RowAt e h s) (i:∀ g,s.a=some ⟨g,0,none⟩→h' g=h g):RowAt e h' s:=by
 obtain ⟨b,h2,H|⟨g,cur,c,j,d,f⟩⟩:=H
 ·exact ⟨b,h2,.inl H⟩
 ·exact ⟨b,h2,.inr ⟨g,cur,c,by rw [i g c];exact j,d,f⟩⟩
theorem Pub.row {h h':Hp} {e:TypeId} {l:List α} {a:Option Addr} {cap:Nat} (H:Pub h e (Enc.size α) l.length (l.flatMap Enc.enc) a cap h'):RowAt e h' (Sl.mk a cap l)∧(∀ g,a=some ⟨g,0,none⟩→h g=none)∧(∀ k,(∀ g,a=some ⟨g,0,none⟩→k ≠ g)→h' k=h k):=by
 obtain ⟨o,h2,b,⟨c,i,j,rfl⟩|⟨g,cur,rfl,m,rfl,d,f⟩⟩:=H
 ·exact ⟨⟨h2,b,.inl ⟨c,List.length_eq_zero_iff.1 i,j⟩⟩,fun g e=>(by rw [c] at e;cases e),fun k _=>rfl⟩
 ·refine ⟨⟨h2,b,.inr ⟨g,cur,rfl,Hp.ins_same,d,f⟩⟩,fun p e=>by cases e;exact m,fun k n=>Hp.ins_ne (n g rfl)⟩
theorem zD5 {x:Cx} {st:St} {c:Code} {Q:Exit→St→Prop} (r:Nat) {e:TypeId} (l:List α) {b n:Nat} {xs:List Value} (i:look r st.p=some (.row e b n xs)) (d:b=Enc.size α) (j:n=l.length) (f:xs=l.flatMap Enc.enc)
  (h:∀ (s:Sl α) h',s.l=l→RowAt e h' s→(∀ g,s.a=some ⟨g,0,none⟩→st.h g=none)→st.h.le h'→(∀ k,(∀ g,s.a=some ⟨g,0,none⟩→k ≠ g)→h' k=st.h k)→T x (st.sub r s.val h') c Q):T x st c Q:=by
 subst d j f
 refine zjO r i fun m cap h' H=>?_
 obtain ⟨o,h2,q⟩:=H.row
 exact h ⟨m,cap,l⟩ h' rfl o h2 H.le q
theorem zD6 {x:Cx} {st:St} {t:Nat} {K:St→Prop} {s:Sl α} {e:TypeId} (j:look t st.e=some (true,.c (.v s.val))) (H:RowAt e st.h s) (f:∀ g,s.a=some ⟨g,0,none⟩→x.h0 g=none∨x.W0.own g)
  (i:K ⟨(t,true,.c (.s st.nx)) :: st.e,(st.nx,.row e (Enc.size α) s.l.length (s.l.flatMap Enc.enc)) :: st.p,zD4 st.h s,st.nx+1⟩):zzh x st t K:=by
 obtain ⟨q,h2,⟨d,k,r⟩|⟨g,cur,d,u,m,o⟩⟩:=H
 ·refine zzt e (Enc.size α) (by rw [j,Sl.val,d,k,r];rfl) ?_
  rw [k] at i
  simpa [zD4,d] using i
 ·refine zzu (b:=g) (n:=s.l.length) (cap:=s.cap) (cur:=cur) (e:=e) (Enc.size α) (by rw [j,Sl.val,d]) u (f g d) m q h2 ?_
  rw [o]
  simpa [zD4,d] using i
end
theorem zD7 {α:Type} {h h':Hp} {s:Sl α} (d:h.le h') (i:∀ g,s.a=some ⟨g,0,none⟩→h g=none) (j:∀ a,s.a=some a→a.off=0∧a.spot=none):h.le (zD4 h' s):=by
 intro b o c
 rcases s with ⟨a,cap,l⟩
 cases a with
 | none=>exact d b o c
 | some a =>
  show h'.del a.block b=some o
  simp only [Hp.del]
  split
  ·rename_i e
   obtain ⟨f,h2⟩:=j a rfl
   have:a=⟨a.block,0,none⟩:=by cases a;simp only at f h2;subst f h2;rfl
   have:=i a.block (by rw [← this])
   rw [e,this] at c;cases c
  ·exact d b o c
section
variable {α:Type} [Enc α]
theorem RowAt.addr {e:TypeId} {h:Hp} {s:Sl α} (H:RowAt e h s):∀ a,s.a=some a→a.off=0∧a.spot=none:=by
 intro a c
 obtain ⟨d,h2,⟨b,_⟩|⟨g,cur,b,_⟩⟩:=H
 ·rw [c] at b;cases b
 ·rw [c] at b;cases b;exact ⟨rfl,rfl⟩
end
theorem zD8 {α:Type} {h:Hp} {s:Sl α} {k:Nat} (b:∀ a,s.a=some a→k ≠ a.block):zD4 h s k=h k:=by
 rcases s with ⟨a,cap,l⟩
 cases a with
 | none=>rfl
 | some a=>exact Hp.del_ne (b a rfl)
open Go Go.RowKit
structure U64 where
 n:Nat
deriving DecidableEq
instance:Enc U64 where
 size:=1
 enc u:=[.int .u64 u.n]
 len _:=rfl
 one n u hu:=by simp only [ya] at hu;subst hu;rfl
 ok _ u:=u.n < 2 ^ 63
 mono _ H:=H
@[go_sem] theorem zD9 {b:U64}:Enc.enc b=[.int .u64 b.n]:=rfl
theorem zEa {h:Hp} {s:Sl U64} (H:s.Ok h) {i:Nat} (b:i < s.l.length):h.lds (qe (·.add (i * 1)) s.a) 1=some [.int .u64 s.l[i].n]:=H.at b
instance:Foot U64:=⟨fun _=>[],fun _ _=>True,fun H _ _=>⟨H,trivial⟩,fun _ b hb=>by cases hb⟩
theorem zEb {α:Type} {l:List α} {i:Nat} {a:α} (b:i < l.length):Jq i l ++ a :: List.drop (i+1) l=l.set i a:=by rw [List.set_eq_take_append_cons_drop,if_pos b]
theorem zEc (l:List U64):l.flatMap Enc.enc=l.map fun u=>Value.int .u64 u.n:=by induction l with|nil=>rfl|cons x l ih=>rw [wV,ih];rfl
theorem zEd (l:List Int):l.flatMap Enc.enc=l.map fun u=>Value.int .i64 u:=by induction l with|nil=>rfl|cons x l ih=>rw [wV,ih];rfl
open Go Go.RowKit
theorem zEe {x:Cx} {st:St} {c d:Code} {Q:Exit→St→Prop} (h:T x st d Q):T x st (.cond (.const (.bool false)) c d) Q:=by
 unfold T at *
 intro a W b
 exact wp_cond_split (t:=false) (by simp [Act.eval]) (fun e=>by cases e) (fun _=>h a W b)
open Go Go.RowKit
section
variable {x:Cx} {st:St} {Q Q':Exit→St→Prop}
theorem zEp {c:Code} (d:∀ e st,Q e st→Q' e st) (h:T x st c Q):T x st c Q':=by
 unfold T at *
 intro a W f
 refine Code.wp_mono ?_ (h a W f)
 rintro e i j ⟨b,g,h2⟩
 exact ⟨b,d e b g,h2⟩
theorem zEq {ι:Type} {c d:Code} (S:ι→St) (ok:ι→Prop) (h:T x st c (zc1 (fun a=>∃ i,ok i∧a.le (S i)) Q)) (f:∀ i,ok i→T x (S i) d Q):T x st c (zc1 (fun a=>T x a d Q) Q):=by
 refine zEp (fun e a b=>?_) h
 cases e with
 | normal =>
  obtain ⟨i,g,h2⟩:=b
  exact zdc h2 (f i g)
 | _=>exact b
end
open Go Go.RowKit
section
variable (both:Nat→Nat→Bool)
def zEr (who:List Nat) (c:Nat):Bool:=decide (∀ k,k < who.length→who.getD k 0=c→both who.length k=true)
def zEs:List Nat→Nat
 | []=>0
 | c :: l=>max (c+1) (zEs l)
def zEt (most:Nat):Nat→List Nat→Option (List Nat)
 | 0,who=>some who
 | f+1,who=>(wg (min (zEs who+1) most)).findSome? fun c=>if zEr both who c=true then zEt most f (who ++ [c]) else none
def CovOn (s:Nat→Prop) (m:Nat):Prop:=∃ g:Nat→Nat,(∀ i,s i→g i < m)∧∀ i k,s i→s k→k < i→g i=g k→both i k=true
end
variable {both:Nat→Nat→Bool}
theorem zEu (l:List Nat) (c:Nat):zEs (l ++ [c])=max (zEs l) (c+1):=by
 induction l with
 | nil=>simp [zEs]
 | cons d l a=>simp only [List.cons_append,zEs,a];omega
theorem zEv {l:List Nat} {c:Nat} (h:c ∈ l):c < zEs l:=by
 induction l with
 | nil=>cases h
 | cons d l a =>
  unfold zEs
  rcases List.mem_cons.1 h with rfl|h
  ·omega
  ·have:=a h;omega
def WhoOk (both:Nat→Nat→Bool) (most:Nat) (who:List Nat):Prop:=(∀ i (hi:i < who.length),who[i] < most)∧∀ i k (hi:i < who.length) (hk:k < who.length),k < i→who[i]=who[k]→both i k=true
theorem WhoOk.snoc {most:Nat} {who:List Nat} {c:Nat} (H:WhoOk both most who) (h:c < most) (e:zEr both who c=true):WhoOk both most (who ++ [c]):=by
 have e:=JE e
 refine ⟨fun i f=>?_,fun i k f j g b=>?_⟩
 ·rw [List.getElem_append];split
  ·exact H.1 i _
  ·simpa using h
 ·rw [jP,jg] at f j
  have a:k < who.length:=by omega
  rw [yH a] at b
  by_cases d:i < who.length
  ·rw [yH d] at b
   exact H.2 i k d a g b
  ·have:i=who.length:=by omega
   subst this
   rw [uC (qV _)] at b
   simp only [Je,List.getElem_cons_zero] at b
   exact e k a (by simp [ja,a,b])
theorem zEw {most:Nat}:∀ {f:Nat} {who w:List Nat},WhoOk both most who→zEt both most f who=some w→WhoOk both most w∧w.length=who.length+f
 | 0,who,w,H,h=>by simp only [zEt,Option.some.injEq] at h;subst h;exact ⟨H,rfl⟩
 | f+1,who,w,H,h=>by
  unfold zEt at h
  obtain ⟨c,a,h⟩:=List.exists_of_findSome?_eq_some h
  have a:=List.mem_range.1 a
  split at h
  ·rename_i b
   obtain ⟨d,h2⟩:=zEw (H.snoc (by omega) b) h
   exact ⟨d,by rw [h2,jP,jg];omega⟩
  ·cases h
theorem zEx:∀ {m:Nat} {l:List Nat},l.Nodup→(∀ x ∈ l,x < m)→l.length≤m
 | 0,l,_,h=>by cases l with
  | nil=>exact qV _
  | cons x l=>exact absurd (h x (qC ..)) (qE _)
 | m+1,l,a,h=>by
  have b:(l.erase m).length≤m:=zEx (a.erase m) fun x c=>by
   have f:=h x (List.mem_of_mem_erase c)
   have g:x ≠ m:=fun e=>by subst e;exact absurd c (by rw [a.mem_erase_iff];simp)
   omega
  by_cases d:m ∈ l
  ·rw [List.length_erase_of_mem d] at b;omega
  ·rw [List.erase_of_not_mem d] at b;omega
theorem zEy {n most:Nat} {g:Nat→Nat} (D:∀ i,i < n→g i < most) (F:∀ i k,k < i→i < n→g i=g k→both i k=true) :
  ∀ {f:Nat} {who:List Nat} {vals:List Nat},who.length+f=n→vals.Nodup→(∀ x ∈ vals,x < most)→zEs who=vals.length→(∀ i (u:i < who.length),∃ h:who[i] < vals.length,g i=vals[who[i]])→(zEt both most f who).isSome=true
 | 0,who,vals,_,_,_,_,_=>rfl
 | f+1,who,vals,W,o,G,X,w=>by
  unfold zEt
  rw [Option.isSome_iff_ne_none]
  intro d
  rw [uf] at d
  have O:=zEx o G
  have J:=D who.length (by omega)
  by_cases K:g who.length ∈ vals
  ·obtain ⟨c,Q,M⟩:=qL K
   have p:c ∈ wg (min (zEs who+1) most):=List.mem_range.2 (by omega)
   have l:zEr both who c=true:=JG fun k m q=>by
    obtain ⟨H,h2⟩:=w k m
    have e:who[k]=c:=by simpa [ja,m] using q
    refine F _ _ m (by omega) ?_
    rw [h2,← M];congr 1;exact e.symm
   have:=d c p
   rw [if_pos l] at this
   have r:=zEy (most:=most) D F (f:=f) (who:=who ++ [c]) (vals:=vals) (by rw [jP,jg];omega) o G (by rw [zEu];omega) (fun i u=>by
    by_cases j:i < who.length
    ·rw [yH j];exact w i j
    ·have:i=who.length:=by rw [jP,jg] at u;omega
     subst this
     simp only [uC (qV _),Je,List.getElem_cons_zero]
     exact ⟨Q,M.symm⟩)
   rw [this] at r;cases r
  ·have s:(vals ++ [g who.length]).Nodup:=by
    rw [yE]
    exact ⟨o,(by simp),fun a R b N=>by rw [List.mem_singleton.1 N];exact fun e=>K (by rw [← e];exact R)⟩
   have z:∀ x ∈ vals ++ [g who.length],x < most:=fun x t=>by
    rcases List.mem_append.1 t with t|t
    ·exact G x t
    ·rw [List.mem_singleton.1 t];exact J
   have y:=zEx s z
   rw [jP,jg] at y
   have p:vals.length ∈ wg (min (zEs who+1) most):=List.mem_range.2 (by omega)
   have l:zEr both who vals.length=true:=JG fun k m q=>by
    obtain ⟨H,h2⟩:=w k m
    have e:who[k]=vals.length:=by simpa [ja,m] using q
    omega
   have:=d _ p
   rw [if_pos l] at this
   have r:=zEy (most:=most) D F (f:=f) (who:=who ++ [vals.length]) (vals:=vals ++ [g who.length]) (by rw [jP,jg];omega) s z (by rw [zEu,jP,jg];omega) (fun i u=>by
    by_cases j:i < who.length
    ·obtain ⟨H,h2⟩:=w i j
     simp only [yH j]
     exact ⟨by rw [jP];omega,by rw [h2,yH H]⟩
    ·have:i=who.length:=by rw [jP,jg] at u;omega
     subst this
     simp only [uC (qV _),Je,List.getElem_cons_zero]
     exact ⟨by rw [jP,jg];omega,trivial⟩)
   rw [this] at r;cases r
theorem zEz {n most:Nat}:(zEt both most n []).isSome=true ↔ CovOn both (fun i=>i < n) most:=by
 constructor
 ·intro h
  obtain ⟨w,j⟩:=Option.isSome_iff_exists.1 h
  obtain ⟨H,l⟩:=zEw ⟨fun i a=>absurd a (qE _),fun i k a=>absurd a (qE _)⟩ j
  simp only [qY,jb] at l
  refine ⟨fun i=>w.getD i 0,fun i a=>?_,fun i k a q c d=>?_⟩
  ·have b:i < w.length:=by omega
   simp only [ja,qX b,jc]
   exact H.1 i b
  ·have b:i < w.length:=by omega
   have e:k < w.length:=by omega
   simp only [ja,qX b,qX e,jc] at d
   exact H.2 i k b e c d
 ·rintro ⟨g,m,o⟩
  exact zEy m (fun i k c a d=>o i k a (by omega) c d) (f:=n) (who:=[]) (vals:=[]) (by simp) List.nodup_nil (fun x p=>by cases p) rfl (fun i a=>absurd a (qE _))
theorem CovOn.id {s:Nat→Prop} {n:Nat} (h:∀ i,s i→i < n):CovOn both s n:=⟨fun i=>i,h,fun i k _ _ b a=>by simp only at a;omega⟩
theorem CovOn.mono {s:Nat→Prop} {m a:Nat} (h:m≤a) (H:CovOn both s m):CovOn both s a:=by
 obtain ⟨g,b,h2⟩:=H
 exact ⟨g,fun i c=>yK (b i c) h,h2⟩
theorem CovOn.add {s r q:Nat→Prop} {l m:Nat} (c:∀ i,s i→i=l∨r i) (t:∀ i,r i→i < l) (y:∀ i,r i→q i→both l i=true) (u:∀ i k,r i→r k→q i→q k→k < i→both i k=true) (H:CovOn both (fun i=>r i∧¬ q i) m):CovOn both s (1+m):=by
 obtain ⟨g,p,h2⟩:=H
 refine ⟨fun i=>open Classical in if i=l∨q i then m else g i,fun i d=>?_,fun i k d z o f=>?_⟩
 ·simp only
  split
  ·omega
  ·rename_i h
   have h:=not_or.1 h
   have:=p i ⟨(c i d).resolve_left h.1,h.2⟩
   omega
 ·simp only at f
  have w:k ≠ l:=fun e=>by
   rcases c i d with h|h
   ·omega
   ·have:=t i h;omega
  have n:=(c k z).resolve_left w
  split at f
  ·rename_i b
   split at f
   ·rename_i a
    have x:=a.resolve_left w
    rcases c i d with rfl|j
    ·exact y k n x
    ·refine u i k j n (b.resolve_left fun e=>?_) x o
     subst e;exact absurd (t i j) (Nat.lt_irrefl _)
   ·rename_i a
    have:=p k ⟨n,fun h=>a (.inr h)⟩
    omega
  ·rename_i b
   have b:=not_or.1 b
   have j:=(c i d).resolve_left b.1
   split at f
   ·have:=p i ⟨j,b.2⟩;omega
   ·rename_i a
    exact h2 i k ⟨j,b.2⟩ ⟨n,fun h=>a (.inr h)⟩ o f
theorem CovOn.cut {s r:Nat→Prop} {l m:Nat} (o:s l) (c:∀ i,r i→s i) (u:∀ i,r i→i < l) (H:CovOn both s m) :
  ∃ q:Nat→Prop,0 < m∧(∀ i,r i→q i→both l i=true)∧(∀ i k,r i→r k→q i→q k→k < i→both i k=true)∧CovOn both (fun i=>r i∧¬ q i) (m - 1):=by
 obtain ⟨g,p,h2⟩:=H
 have y:=p l o
 refine ⟨fun i=>g i=g l,by omega,fun i h j=>h2 l i o (c i h) (u i h) j.symm,fun i k h w j x d=>h2 i k (c i h) (c k w) d (j.trans x.symm),fun i=>if g i=m - 1 then g l else g i,fun i f=>?_,fun i k f t d n=>?_⟩
 ·have:=p i (c i f.1)
  simp only
  split
  ·rename_i e
   have:=f.2
   omega
  ·omega
 ·simp only at n
  refine h2 i k (c i f.1) (c k t.1) d ?_
  have a:=f.2
  have b:=t.2
  split at n <;> split at n <;> omega
open Go Go.RowKit
section
variable {α:Type} [Enc α] {e:TypeId} {h h2:Hp} {s:Sl α}
theorem zEA {α:Type} {h:Hp} {s:Sl α}:(zD4 h s).le h:=by
 intro k o b
 rcases s with ⟨a,cap,l⟩
 cases a with
 | none=>exact b
 | some a =>
  simp only [zD4,Hp.del] at b
  split at b
  ·cases b
  ·exact b
theorem zEB {α:Type} {h h2:Hp} {s:Sl α} (c:h.le h2):(zD4 h s).le (zD4 h2 s):=by
 intro k o b
 rcases s with ⟨a,cap,l⟩
 cases a with
 | none=>exact c k o b
 | some a =>
  simp only [zD4,Hp.del] at b ⊢
  split at b
  ·cases b
  ·rename_i d;rw [if_neg d];exact c k o b
theorem zEC {α:Type} {h:Hp} {s:Sl α} {k:Nat} (b:∀ a,s.a=some a→k ≠ a.block):zD4 h s k=h k:=zD8 b
theorem zED {α:Type} {h:Hp} {s:Sl α} {a:Addr} (b:s.a=some a):zD4 h s a.block=none:=by
 simp only [zD4,b,Hp.del_same]
theorem Pub.drop {β:Type} {a:Hp} {c n:Nat} {xs:List Value} {b:Option Addr} {cap:Nat} {l:List β} (H:Pub a e c n xs b cap h2):zD4 h2 (Sl.mk b cap l)=a:=by
 obtain ⟨j,m,o,⟨d,p,q,rfl⟩|⟨g,cur,rfl,f,rfl,h,i⟩⟩:=H
 ·subst d;rfl
 ·funext k
  simp only [zD4,Hp.del,Hp.ins]
  split
  ·rename_i e;subst e;exact f.symm
  ·rfl
def WS (e:TypeId) (h:Hp) (s:Sl α):Prop:=RowAt e h s∧∀ x ∈ s.l,Enc.ok (zD4 h s) x
theorem WS.ok (a:0 < Enc.size α) (H:WS e h s):s.Ok h:=H.1.ok a fun x b=>Enc.mono zEA (H.2 x b)
theorem RowAt.blk (H:RowAt e h s):∀ a,s.a=some a→a=⟨a.block,0,none⟩:=fun a c=>by
 obtain ⟨b,h2⟩:=H.addr a c
 cases a;simp only at b h2;subst b h2;rfl
theorem WS.grow (H:WS e h s) (b:h.le h2):WS e h2 s∧(zD4 h s).le (zD4 h2 s):=by
 have d:=zEB (s:=s) b
 refine ⟨⟨H.1.keep fun g a=>?_,fun x i=>Enc.mono d (H.2 x i)⟩,d⟩
 obtain ⟨l,m,⟨c,_⟩|⟨n,cur,c,f,j,k⟩⟩:=H.1
 ·rw [c] at a;cases a
 ·rw [c] at a;cases a
  rw [f];exact b _ _ f
theorem WS.push {x:α} {f:Option Addr} {cap:Nat} (H:WS e h s) (q:Enc.ok (zD4 h s) x) (P:Pub (zD4 h s) e (Enc.size α) (s.l ++ [x]).length ((s.l ++ [x]).flatMap Enc.enc) f cap h2) :
  WS e h2 (Sl.mk f cap (s.l ++ [x]))∧zD4 h2 (Sl.mk f cap (s.l ++ [x]))=zD4 h s∧(∀ g,f=some ⟨g,0,none⟩→h g=none∨s.a=some ⟨g,0,none⟩)∧∀ k o,h k=some o→s.a ≠ some ⟨k,0,none⟩→h2 k=some o:=by
 have m:=P.drop (l:=s.l ++ [x])
 obtain ⟨r,n,t⟩:=P.row
 refine ⟨⟨r,fun y b=>?_⟩,m,fun g i=>?_,fun k o u p=>?_⟩
 ·rw [m]
  rcases List.mem_append.1 b with b|b
  ·exact H.2 y b
  ·rw [List.mem_singleton.1 b];exact q
 ·by_cases e:s.a=some ⟨g,0,none⟩
  ·exact .inr e
  ·left
   have:=n g i
   rw [zEC (fun a c j=>e (by rw [c,H.1.blk a c,j]))] at this
   exact this
 ·have d:zD4 h s k=some o:=by
   rw [zEC (fun a c j=>p (by rw [c,H.1.blk a c,j]))];exact u
  rw [t k fun g i e=>(by subst e;rw [n _ i] at d;cases d),d]
end
theorem zEE {α β:Type} {F:α→List β} {B:Nat}:∀ {l:List α},(∀ x ∈ l,(F x).length≤B)→(l.flatMap F).length≤l.length * B
 | [],_=>by simp
 | x :: l,h=>by
  rw [wV,jP,qv,yP,JQ]
  have b:=h x (qC ..)
  have h2:=zEE (l:=l) fun y a=>h y (qg _ a)
  omega
theorem zEF {β:Type} {F:Nat→List β} {k:Nat}:(wg (k+1)).flatMap F=(wg k).flatMap F ++ F k:=by
 rw [yg,jF];simp
theorem zEG {a b c d u:Value}:(spl 2 [u] [a,b,c,d]).toArray=#[a,b,u,d]:=rfl
theorem zEH {a b c d u:Value}:(spl 3 [u] [a,b,c,d]).toArray=#[a,b,c,u]:=rfl
theorem zEI {n:Nat} {l:List Int} (c:l.Nodup) (h:∀ x ∈ l,0≤x∧x < n):l.length≤n:=by
 have:(l.map Int.toNat).Nodup:=by
  rw [List.Nodup,List.pairwise_map]
  refine List.Pairwise.imp_of_mem (fun {a b} ha hb hne e=>hne ?_) c
  have g:=h a ha
  have h2:=h b hb
  omega
 have h2:=zEx (m:=n) this fun x d=>by
  obtain ⟨y,f,rfl⟩:=List.mem_map.1 d
  have:=h y f
  omega
 rwa [jH] at h2
open Go Go.RowKit
section
variable {x:Cx} {ops:List Oper} {tk:List Nat} {fuel:Nat} {listed:Array Bool} {st:St} {K:St→Prop}
@[irreducible] def UBr (x:Cx) (ops:List Oper) (tk:List Nat) (fuel:Nat) (listed:Array Bool) (st:St) (K:St→Prop) (j:Nat):Prop :=
 ∀ (D:List TkI),D.map (·.1)=tk.filter (nmv ops)→(∀ t ∈ D,ops[t.1]?=some t.2.1)→Closed ops.toArray listed→(∀ k ∈ tk,listed.getD k false=true) →
  ∀ a W,Conc x.W0 x.h0 x.N st a W→FrD ops.toArray (D.map (·.2)) a→SS x.P ops.toArray tk D listed W→j ∈ Region.ready .any ops.toArray listed →
  wpOp x.P ops.toArray (QN x K) j (fun a' w'=>SS x.P ops.toArray tk D (listed.setIfInBounds j true) w'∧zzM x.P ops.toArray (QN x K) (SS x.P ops.toArray tk D) fuel (listed.setIfInBounds j true) a' w') a W
def UBs (x:Cx) (ops:List Oper) (tk:List Nat) (fuel:Nat) (listed:Array Bool) (st:St) (K:St→Prop):List Nat→Prop
 | []=>True
 | j :: l=>UBr x ops tk fuel listed st K j∧UBs x ops tk fuel listed st K l
theorem zFK:∀ {a:List Nat} {j:Nat},UBs x ops tk fuel listed st K a→j ∈ a→UBr x ops tk fuel listed st K j
 | [],j,_,h=>by cases h
 | i :: l,j,H,h=>by
  rcases List.mem_cons.1 h with rfl|h
  ·exact H.1
  ·exact zFK H.2 h
theorem zFL (i:Nat) (b:List Nat) (c:Region.ready .any ops.toArray listed=i :: b) (h:UBs x ops tk fuel listed st K (i :: b)):U x ops tk (fuel+1) listed st K:=by
 unfold U
 intro D l d e f a W m n o
 refine ⟨fun h0=>(by rw [c] at h0;cases h0),fun j g=>?_⟩
 have k:=zFK h (by rw [← c];exact g)
 unfold UBr at k
 exact k D l d e f a W m n o g
theorem U_br (i m:Nat) (G:List Nat) {o:Oper} {l:List (Nat × Oper)} (Y:ops[i]?=some o) (n:(zzS ops tk o && (match o.dst with|some d=>decide (d < x.N)|none=>true))=true)
  (H:zzZ ops tk (listed.setIfInBounds i true)=G) (J:ziW ops G=some l)
  (h:vopM x ops st o (fun b=>vre x.P ops b (l.map (·.2))∧U x ops tk fuel (listed.setIfInBounds i true) b K) m):UBr x ops tk fuel listed st K i:=by
 subst H
 have e:(fun b=>vre x.P ops b (l.map (·.2))∧U x ops tk fuel (listed.setIfInBounds i true) b K)=(fun b=>zz0 x ops tk (listed.setIfInBounds i true) b∧U x ops tk fuel (listed.setIfInBounds i true) b K):=by
  funext b
  apply propext
  constructor
  ·rintro ⟨t,h2⟩;exact ⟨⟨l,J,t⟩,h2⟩
  ·rintro ⟨⟨l',r,t⟩,h2⟩;rw [J] at r;cases r;exact ⟨t,h2⟩
 rw [e] at h
 simp only [jJ] at n
 unfold UBr
 unfold U at h
 intro D p c s M a W Z O hS Q
 have R:ops.toArray[i]?=some o:=by simpa using Y
 have hd:∀ w,o.dst=some w→w < x.N:=by
  intro w e
  have:=n.2
  rw [e] at this
  simpa using this
 have q:∀ k ∈ tk,(listed.setIfInBounds i true).getD k false=true:=fun k hk=>zzJ (M k hk)
 unfold wpOp
 simp only [R]
 rcases zzo (QQ:=QN x K) hd h Z with ⟨y,X⟩|⟨y,b,⟨z,F⟩,f⟩
 ·rw [if_pos y]
  left
  refine Oper.wp_mono ?_ (ziK X)
  rintro a' W' ⟨⟨u,ds,rfl⟩,b,⟨z,F⟩,f⟩
  have g:FrD ops.toArray (D.map (·.2)) (Act.put { a with defers:=ds } o.dst u):=FrD.put (FrD.defers O) (zzT n.1 p c)
  have j:=zz1 p c f g z
  exact ⟨j,F D p c (s.set Q) q _ W' f g j⟩
 ·rw [if_neg (by simp [y])]
  have g:FrD ops.toArray (D.map (·.2)) (a.put o.dst undef):=O.put (zzT n.1 p c)
  have j:=zz1 p c f g z
  exact ⟨j,F D p c (s.set Q) q _ W f g j⟩
theorem zFM (b:Nat) (a:Array Bool) (S:St) (c:U x ops tk b a S K) (h2:U x ops tk b a S K→U x ops tk fuel listed st K):U x ops tk fuel listed st K:=h2 c
theorem zFN (r:Nat) {e:TypeId} {c n:Nat} {xs:List Value} (j:look r st.p=some (.row e c n xs)) (h:∀ b cap h',Pub st.h e c n xs b cap h'→U x ops tk fuel listed (st.sub r (.slice b n cap) h') K):U x ops tk fuel listed st K:=by
 unfold U at *
 intro D k d f g a W l m o
 obtain ⟨b,cap,h',q,i⟩:=l.pub j
 exact h b cap h' q D k d f g a W i m o
theorem zFO {α:Type} [Enc α] (r:Nat) {e:TypeId} (l:List α) {b n:Nat} {xs:List Value} (f:look r st.p=some (.row e b n xs)) (c:b=Enc.size α) (i:n=l.length) (d:xs=l.flatMap Enc.enc)
  (h:∀ (s:Sl α) h',s.l=l→RowAt e h' s→(∀ g,s.a=some ⟨g,0,none⟩→st.h g=none)→st.h.le h'→(∀ k,(∀ g,s.a=some ⟨g,0,none⟩→k ≠ g)→h' k=st.h k)→U x ops tk fuel listed (st.sub r s.val h') K):U x ops tk fuel listed st K:=by
 subst c i d
 refine zFN r f fun j cap h' H=>?_
 obtain ⟨m,h2,o⟩:=H.row
 exact h ⟨j,cap,l⟩ h' rfl m h2 H.le o
end
theorem U_m {x:Cx} {ops:List Oper} {tk:List Nat} {fuel:Nat} {listed:Array Bool} {st:St} {K:St→Prop} (i:Nat) (a:List Nat) (h:UBs x ops tk fuel listed st K (i :: a)) (b:Region.ready .any ops.toArray listed=i :: a:=by kernel_rfl):U x ops tk (fuel+1) listed st K:=zFL i a b h
theorem U_b {x:Cx} {ops:List Oper} {tk:List Nat} {fuel:Nat} {listed:Array Bool} {st:St} {K:St→Prop} (i m:Nat) (b:List Nat) {o:Oper} {l:List (Nat × Oper)} (f:ops[i]?=some o) (g:ziW ops b=some l)
  (h:vopM x ops st o (fun a=>vre x.P ops a (l.map (·.2))∧U x ops tk fuel (listed.setIfInBounds i true) a K) m) (c:(zzS ops tk o && (match o.dst with|some d=>decide (d < x.N)|none=>true))=true:=by kernel_rfl)
  (e:zzZ ops tk (listed.setIfInBounds i true)=b:=by kernel_rfl):UBr x ops tk fuel listed st K i:=U_br i m b f c e g h
open Go Go.RowKit
def St.leR (l:List Nat) (st st':St):Prop:=leE st.e (renE l st'.e)∧leP st.p (renP l st'.p)∧st'.h=st.h∧st'.wf=true∧l.Nodup∧znb l.length st'.p=true
theorem Conc.weakenR {W0:Base} {h0:Hp} {N:Nat} {st i:St} {a:Act} {W:World} {l:List Nat} (h:st.leR l i) (q:Conc W0 h0 N st a W):Conc W0 h0 N i a W:=by
 obtain ⟨s,h2,u,w,m,x⟩:=h
 obtain ⟨ρ,hf,hW,hw⟩:=q
 have f:∀ r b,look r i.p=some b→r < l.length∧look (rn l r) st.p=some (b.ren l):=fun r b d=>by
  obtain ⟨y,z⟩:=znf m x d
  exact ⟨y,zdb h2 _ _ z⟩
 refine ⟨fun r=>ρ (rn l r),⟨hf.1,hf.2.1,fun t c sv D=>?_⟩,?_,w⟩
 ·rw [hf.2.2 t c _ (zda s t _ (znc D)),SV.ren_conc]
 ·rw [u]
  refine ⟨hW.below,hW.sees,hW.ext,hW.new,fun r b g d e=>?_,fun r b d=>?_,fun r b g d e=>?_,fun r b n o g d j e k=>?_⟩
  ·exact hW.own (rn l r) _ g (f r b d).2 e
  ·exact PB.ok_ren (hW.priv _ _ (f r b d).2)
  ·exact hW.apart _ _ g (f r b d).2 e
  ·exact zne m (f r b d).1 (f n o j).1 (hW.distinct _ _ _ _ g (f r b d).2 (f n o j).2 e k)
@[go_sem] theorem zFP {l:List Nat} {st a:St}:st.leR l a=(leE st.e (renE l a.e)∧leP st.p (renP l a.p)∧a.h=st.h∧a.wf=true∧l.Nodup∧znb l.length a.p=true):=rfl
section
variable {x:Cx} {ops:List Oper} {tk:List Nat} {fuel:Nat} {listed:Array Bool} {st:St} {K:St→Prop} {Q:Exit→St→Prop}
theorem zFQ {c:Nat} {b:Array Bool} {S:St} (l:List Nat) (h:U x ops tk c b S K) (i:fuel=c) (j:listed=b) (d:st.leR l S):U x ops tk fuel listed st K:=by
 subst i j
 unfold U at *
 intro D k e f g a W m n o
 exact h D k e f g a W (m.weakenR d) n o
theorem zFR {b:St} {c:Code} (l:List Nat) (d:st.leR l b) (h:T x b c Q):T x st c Q:=by
 unfold T at *
 exact fun a W e=>h a W (e.weakenR d)
theorem zFS {ι:Type} {c d:Code} (S:ι→St) (ok:ι→Prop) (h:T x st c (zc1 (fun a=>∃ i l,ok i∧a.leR l (S i)) Q)) (f:∀ i,ok i→T x (S i) d Q):T x st c (zc1 (fun a=>T x a d Q) Q):=by
 refine zEp (fun e a b=>?_) h
 cases e with
 | normal =>
  obtain ⟨i,l,g,h2⟩:=b
  exact zFR l h2 (f i g)
 | _=>exact b
theorem zFT {ι:Type} {c d:Code} {b:Exit→St→Prop} (S:ι→St) (ok:ι→Prop) (g:∀ a,Q .normal a=T x a d b) (h:T x st c (zc1 (fun a=>∃ i l,ok i∧a.leR l (S i)) Q)) (j:∀ i,ok i→T x (S i) d b):T x st c Q:=by
 refine zEp (fun e a f=>?_) h
 cases e with
 | normal =>
  obtain ⟨i,l,k,h2⟩:=f
  rw [g]
  exact zFR l h2 (j i k)
 | _=>exact f
theorem zFU {ι:Type} {c:Code} (S:ι→St) (ok:ι→Prop) (m:ι→Nat) (g:ι) (h0:ok g) (l0:List Nat) (b:st.leR l0 (S g))
  (q:∀ i,ok i→T x (S i) c (zc1 (fun d=>∃ j l,ok j∧m j < m i∧d.leR l (S j)) Q)):T x st (.loop c) Q:=by
 unfold T at *
 intro a W h
 refine zdd (fun i k n=>ok i∧Conc x.W0 x.h0 x.N (S i) k n) m ?_ g a W ⟨h0,h.weakenR b⟩
 rintro i a W ⟨r,h⟩
 refine Code.wp_mono ?_ (q i r a W h)
 rintro e k n ⟨d,o,f⟩
 cases e with
 | normal =>
  obtain ⟨j,l,s,p,b⟩:=o
  exact ⟨j,p,s,f.weakenR b⟩
 | _=>exact ⟨d,o,f⟩
end
section
variable {α:Type} [Enc α] {e:TypeId} {h h2:Hp} {s:Sl α}
theorem RowAt.mem (H:RowAt e h s) {g:Nat} (b:s.a=some ⟨g,0,none⟩):h g ≠ none:=by
 obtain ⟨j,h2,⟨c,k,l⟩|⟨m,cur,c,d,f,i⟩⟩:=H
 ·rw [c] at b;cases b
 ·rw [c] at b;cases b;rw [d];exact fun e=>by cases e
theorem Pub.beside {f:TypeId} {i n:Nat} {xs:List Value} {j:Option Addr} {cap:Nat} (H:Pub h f i n xs j cap h2) (R:RowAt e h s):Pub (zD4 h s) f i n xs j cap (zD4 h2 s):=by
 obtain ⟨m,o,p,⟨b,u,w,rfl⟩|⟨g,cur,rfl,q,rfl,r,t⟩⟩:=H
 ·exact ⟨m,o,p,.inl ⟨b,u,w,rfl⟩⟩
 ·have d:∀ a,s.a=some a→g ≠ a.block:=fun a b e=>by
   have x:=R.blk a b
   rw [x,← e] at b
   exact R.mem b q
  refine ⟨m,o,p,.inr ⟨g,cur,rfl,by rw [zEC d];exact q,?_,r,t⟩⟩
  rcases s with ⟨a,c,l⟩
  cases a with
  | none=>rfl
  | some a =>
   have:=d a rfl
   funext k
   simp only [zD4,Hp.del,Hp.ins]
   split
   ·rename_i e;subst e;rw [if_neg (Ne.symm this)]
   ·rfl
end
open Go Go.RowKit
def zFV {α:Type} (h:Hp) (b:Nat) (s:Sl α):Hp:=(zD4 h s).del b
def WB {α:Type} [Enc α] (tb e:TypeId) (h:Hp) (b:Nat) (s:Sl α):Prop :=
 h b=some (.cells #[s.val] tb (0,0))∧RowAt e h s∧s.a ≠ some ⟨b,0,none⟩∧∀ x ∈ s.l,Enc.ok (zFV h b s) x
theorem zFW {α:Type} {h:Hp} {b:Nat} {s:Sl α}:(zFV h b s).le h:=fun k o a=>by
 simp only [zFV,Hp.del] at a
 split at a
 ·cases a
 ·exact zEA k o a
section
variable {α:Type} [Enc α] {tb e:TypeId} {h h2:Hp} {b:Nat} {s:Sl α}
theorem WB.lds (H:WB tb e h b s):h.lds (some ⟨b,0,none⟩) 1=some [s.val]:=zzg (xs:=[s.val]) H.1 rfl (by simp)
theorem zFX (R:RowAt e h s) {k:Nat} (d:k ≠ b) (f:s.a ≠ some ⟨k,0,none⟩):zFV h b s k=h k:=by
 simp only [zFV,Hp.del,if_neg d]
 exact zEC fun a c e=>f (by rw [c,R.blk a c,e])
theorem WB.grow (H:WB tb e h b s) (a:h.le h2):WB tb e h2 b s∧(zFV h b s).le (zFV h2 b s):=by
 have i:(zFV h b s).le (zFV h2 b s):=fun k o c=>by
  simp only [zFV,Hp.del] at c ⊢
  split at c
  ·cases c
  ·rename_i j;rw [if_neg j];exact zEB a k o c
 refine ⟨⟨a _ _ H.1,H.2.1.keep fun g d=>?_,H.2.2.1,fun x m=>Enc.mono i (H.2.2.2 x m)⟩,i⟩
 obtain ⟨q,r,⟨f,_⟩|⟨t,cur,f,l,n,p⟩⟩:=H.2.1
 ·rw [f] at d;cases d
 ·rw [f] at d;cases d
  rw [l];exact a _ _ l
theorem WB.beside {β:Type} [Enc β] {c:TypeId} {q:Sl β} (H:WB tb e h b s) (d:h.le h2) (R:RowAt c h2 q) (f:∀ g,q.a=some ⟨g,0,none⟩→h g=none):RowAt c (zFV h2 b s) q:=by
 refine R.keep fun g i=>?_
 refine zFX (e:=e) (H.grow d).1.2.1 (fun e=>?_) (fun e=>?_)
 ·have:=f g i;rw [e,H.1] at this;cases this
 ·exact H.2.1.mem e (f g i)
theorem WB.push {x:α} {c:Option Addr} {cap:Nat} (H:WB tb e h b s) (w:Enc.ok (zFV h b s) x) (P:Pub (zD4 h s) e (Enc.size α) (s.l ++ [x]).length ((s.l ++ [x]).flatMap Enc.enc) c cap h2) :
  h2 b=some (.cells #[s.val] tb (0,0))∧WB tb e (h2.ins b (.cells #[(Sl.mk c cap (s.l ++ [x])).val] tb (0,0))) b (Sl.mk c cap (s.l ++ [x]))∧(zFV h b s).le (zFV (h2.ins b (.cells #[(Sl.mk c cap (s.l ++ [x])).val] tb (0,0))) b (Sl.mk c cap (s.l ++ [x]))) ∧
   (∀ g,c=some ⟨g,0,none⟩→h g=none∨s.a=some ⟨g,0,none⟩):=by
 have z:=P.drop (l:=s.l ++ [x])
 obtain ⟨D,o,F⟩:=P.row
 obtain ⟨p,R,q,r⟩:=H
 have m:zD4 h s b=h b:=zEC fun a i e=>q (by rw [i,R.blk a i,e])
 have d:∀ g,c=some ⟨g,0,none⟩→g ≠ b:=fun g f e=>by
  have:=o g f
  rw [e,m,p] at this;cases this
 have t:h2 b=some (.cells #[s.val] tb (0,0)):=by rw [F b fun g f e=>d g f e.symm,m];exact p
 have n:zFV (h2.ins b (.cells #[(Sl.mk c cap (s.l ++ [x])).val] tb (0,0))) b (Sl.mk c cap (s.l ++ [x]))=zFV h b s:=by
  funext k
  simp only [zFV,Hp.del]
  split
  ·rfl
  ·rename_i u
   rw [← z]
   cases c with
   | none=>simp only [zD4];exact Hp.ins_ne u
   | some a =>
    simp only [zD4,Hp.del]
    split
    ·rfl
    ·exact Hp.ins_ne u
 refine ⟨t,⟨Hp.ins_same,D.keep fun g f=>Hp.ins_ne (d g f),fun e=>d b e rfl,fun y j=>?_⟩,by rw [n];exact Hp.le_refl _,fun g f=>?_⟩
 ·rw [n]
  rcases List.mem_append.1 j with j|j
  ·exact r y j
  ·rw [List.mem_singleton.1 j];exact w
 ·by_cases e:s.a=some ⟨g,0,none⟩
  ·exact .inr e
  ·left
   have:=o g f
   rw [zEC (fun a i G=>e (by rw [i,R.blk a i,G]))] at this
   exact this
end
open Go Go.RowKit
theorem WB.mine {α β:Type} [Enc α] [Enc β] [Foot β] {tb e:TypeId} {h h2:Hp} {b:Nat} {s:Sl α} {q:β} (H:WB tb e h b s) (c:h.le h2) (d:Enc.ok h2 q) (m:Mine h h2 q):Enc.ok (zFV h2 b s) q:=by
 refine (Foot.loc d m.1 fun g f o i=>?_).1
 have a:=m.2.1 g f
 rw [zFX (e:=e) (H.grow c).1.2.1 (fun e=>by rw [e,H.1] at a;cases a) (fun e=>H.2.1.mem e a)]
 exact i
theorem WS.mine {α β:Type} [Enc α] [Enc β] [Foot β] {e:TypeId} {h h2:Hp} {s:Sl α} {q:β} (H:WS e h s) (j:h.le h2) (b:Enc.ok h2 q) (m:Mine h h2 q):Enc.ok (zD4 h2 s) q:=by
 refine (Foot.loc b m.1 fun g d o f=>?_).1
 have i:=m.2.1 g d
 rw [zEC fun a c e=>H.1.mem (g:=g) (by rw [c,H.1.blk a c,e]) i]
 exact f
open Go Go.RowKit
theorem zFY {a u:Value}:(spl 0 [u] [a]).toArray=#[u]:=rfl
theorem pubF {α β:Type} [Enc α] {e:TypeId} {c h h2:Hp} {s:Sl α} {p n:Nat} {xs:List Value} {l:List β} {j:Option Addr} {cap:Nat} (R:RowAt e h s) (m:c.le h) (q:∀ g,s.a=some ⟨g,0,none⟩→c g=none) (H:Pub (zD4 h s) e p n xs j cap h2) :
  c.le h2∧∀ g,j=some ⟨g,0,none⟩→c g=none:=by
 obtain ⟨w,x,y,H⟩:=H
 have f:∀ k o,c k=some o→zD4 h s k=some o:=fun k o b=>by
  rw [zEC fun a d e=>?_]
  ·exact m k o b
  ·have:=q k (by rw [d,R.blk a d,e]);rw [this] at b;cases b
 rcases H with ⟨d,z,D,rfl⟩|⟨g,cur,rfl,i,rfl,t,u⟩
 ·exact ⟨f,fun g e=>by rw [d] at e;cases e⟩
 ·refine ⟨fun k o b=>?_,fun F e=>?_⟩
  ·have:=f k o b
   rw [Hp.ins_ne (fun e=>by subst e;rw [i] at this;cases this)];exact this
  ·cases e
   cases r:c g with
   | none=>rfl
   | some o=>rw [f g o r] at i;cases i
open Go Go.RowKit
theorem WOk.rep {W0:Base} {h0:Hp} {ρ:Rho} {p:List (Nat × PB)} {h:Hp} {W:World} (d:WOk W0 h0 ρ p h W) {r:Nat} {m b:PB} (g:look r p=some m) (s:b.ok 0 ρ r W):WOk W0 h0 ρ (setP r b p) h W:=by
 refine ⟨d.below,d.sees,d.ext,d.new,fun i f j a c=>?_,fun i f a=>?_,fun i f j a c=>?_,fun o t r2 u j w h2 x y=>?_⟩
 ·rw [zb0 g] at a
  split at a
  ·rename_i e;subst e;exact d.own i m j g c
  ·exact d.own i f j a c
 ·rw [zb0 g] at a
  split at a
  ·rename_i e;subst e;simp only [Option.some.injEq] at a;subst a;exact s
  ·exact d.priv i f a
 ·rw [zb0 g] at a
  split at a
  ·rename_i e;subst e;exact d.apart i m j g c
  ·exact d.apart i f j a c
 ·have l:∀ k f,look k (setP r b p)=some f→∃ q,look k p=some q:=fun k f n=>by
   rw [zb0 g] at n
   split at n
   ·rename_i e;subst e;exact ⟨_,g⟩
   ·exact ⟨_,n⟩
  obtain ⟨z,D⟩:=l o t w
  obtain ⟨F,G⟩:=l r2 u h2
  exact d.distinct o z r2 F j D G x y
theorem zGu {x:Cx} {st:St} {c:Code} {Q:Exit→St→Prop} (r:Nat) {ty:TypeId} (i d:List SC) (e:TypeId) (m:Nat) (n:look r st.p=some (.box ty (i ++ .v (.slice none 0 0) :: d)))
  (h:T x ⟨st.e,(st.nx,.row e m 0 []) :: setP r (.box ty (i ++ .s st.nx :: d)) st.p,st.h,st.nx+1⟩ c Q):T x st c Q:=by
 unfold T at *
 rintro a W ⟨ρ,hf,hW,hw⟩
 have w:=zao (wf_p hw) n
 have o:st.nx ≠ r:=fun e=>by omega
 refine h a W ⟨upd ρ st.nx (.slice none 0 0),?_,?_,?_⟩
 ·exact hf.congr (wf_e hw) (zbU ρ st.nx _)
 ·have j:∀ g,atV (.slice none 0 0) g→False:=fun g f=>by
   rcases f with f|⟨_,_,f⟩ <;> cases f
  have k:WOk x.W0 x.h0 (upd ρ st.nx (.slice none 0 0)) ((st.nx,.row e m 0 []) :: st.p) st.h W :=
   hW.add (wf_p hw) (fun _ _ x=>x) hW.below hW.sees (fun g f=>(j g f).elim) (fun r b n=>hW.priv r b n) (by
    show W.ownsRow 0 e m (upd ρ st.nx _ st.nx) 0 []
    rw [zbT]
    exact ⟨by simp,.inl ⟨rfl,rfl⟩⟩) (fun g f=>(j g f).elim) (fun r D g _ _ f=>(j g f).elim)
  have q:look r ((st.nx,PB.row e m 0 []) :: st.p)=some (.box ty (i ++ .v (.slice none 0 0) :: d)):=by
   simp only [look,if_neg o];exact n
  have:=k.rep (b:=.box ty (i ++ .s st.nx :: d)) q (by
   obtain ⟨g,l,h2,y⟩:=k.priv r _ q
   refine ⟨g,l,h2,?_⟩
   rw [y]
   congr 3
   simp only [qB,wx,zaj,zah,zbT])
  simp only [setP,if_neg o] at this
  exact this
 ·have t:st.nx≤st.nx+1:=Nat.le_succ _
  have z:(PB.box ty (i ++ .s st.nx :: d)).lt (st.nx+1)=true:=by
   have l:=w.2
   simp only [PB.lt,List.all_append,List.all_cons,jJ] at l ⊢
   refine ⟨?_,by simp [SC.lt],?_⟩
   ·rw [wY] at *
    intro c u
    have:=l.1 c u
    cases c <;> simp_all [SC.lt] <;> omega
   ·have h2:=l.2.2
    rw [wY] at *
    intro c u
    have:=h2 c u
    cases c <;> simp_all [SC.lt] <;> omega
  simp only [St.wf,jJ]
  exact ⟨zap t (wf_e hw),by
   simp only [pbLt,jJ,JD]
   exact ⟨⟨by omega,rfl⟩,zb1 z (zaq t (wf_p hw))⟩⟩
open Go Go.RowKit
def subN (a b:Nat):Prop:=∀ i,a.testBit i=true→b.testBit i=true
theorem zHV {a b:Nat} (h:subN a b):subN (a / 2) (b / 2):=fun i c=>by
 have:=h (i+1) (by rw [JW];exact c)
 rwa [JW] at this
theorem zHW {a b:Nat} (h:subN a b):a % 2≤b % 2:=by
 have:=h 0
 simp only [Nat.testBit_zero,JD] at this
 rcases ug a with c|c
 ·omega
 ·have:=this c;omega
theorem zHX (a b:Nat):a &&& b=2 * (a / 2 &&& b / 2)+(if a % 2=1∧b % 2=1 then 1 else 0):=by
 have d:(a &&& b) / 2=a / 2 &&& b / 2:=by
  apply ue
  intro i
  rw [← JW,Nat.testBit_and,Nat.testBit_and,JW,JW]
 have e:(a &&& b) % 2=if a % 2=1∧b % 2=1 then 1 else 0:=by
  have:=Nat.testBit_and a b 0
  simp only [Nat.testBit_zero] at this
  rcases ug (a &&& b) with h|h <;> rcases ug a with c|c <;> rcases ug b with h2|h2 <;> simp [h,c,h2] at this ⊢
 rw [← d,← e];omega
theorem zHY:∀ {a b:Nat},subN a b→a≤b:=by
 intro a b
 induction b using JP generalizing a with
 | ind b c =>
  intro h
  rcases we b with rfl|e
  ·rcases we a with rfl|f
   ·exact qV _
   ·obtain ⟨i,d⟩:=Nat.exists_testBit_of_ne_zero (by omega:a ≠ 0)
    have:=h i d
    simp at this
  ·have g:=c (b / 2) (by omega) (zHV h)
   have h2:=zHW h
   omega
theorem zHZ:∀ {a rest q:Nat},subN q rest→subN a rest→q < a→q≤(a - 1) &&& rest:=by
 intro a
 induction a using JP with
 | ind a f =>
  intro rest q e b k
  rw [zHX]
  have l:=zHW e
  have h2:=zHW b
  rcases ug a with g|g
  ·have c:(a - 1) / 2=a / 2 - 1:=by omega
   have d:(a - 1) % 2=1:=by omega
   have:=f (a / 2) (by omega) (zHV e) (zHV b) (by omega)
   rw [c,d]
   simp only [JA]
   split <;> omega
  ·have c:(a - 1) / 2=a / 2:=by omega
   have d:(a - 1) % 2=0:=by omega
   have j:a / 2 &&& rest / 2=a / 2:=by
    apply ue
    intro i
    rw [Nat.testBit_and]
    cases h:(a / 2).testBit i
    ·rfl
    ·rw [zHV b i h];rfl
   rw [c,d,j]
   simp only [Nat.zero_ne_one,false_and,if_false]
   omega
theorem zH0 (Q:Nat→Prop):∀ (rest:Nat),∃ q:Nat,∀ i,q.testBit i=true ↔ (rest.testBit i=true∧Q i):=by
 intro rest
 induction rest using JP generalizing Q with
 | ind rest a =>
  rcases we rest with rfl|c
  ·exact ⟨0,fun i=>by simp⟩
  ·obtain ⟨q,b⟩:=a (rest / 2) (by omega) (fun i=>Q (i+1))
   open Classical in
   refine ⟨2 * q+(if rest % 2=1∧Q 0 then 1 else 0),fun i=>?_⟩
   cases i with
   | zero =>
    simp only [Nat.testBit_zero,JD]
    split
    ·rename_i h;simp [h]
    ·rename_i h
     constructor
     ·intro e;omega
     ·intro e;exact (h e).elim
   | succ i =>
    rw [JW,JW]
    have:(2 * q+(if rest % 2=1∧Q 0 then 1 else 0)) / 2=q:=by split <;> omega
    rw [this];exact b i
def zH1 (a b:Nat):Nat:=(BitVec.ofNat 64 a &&& ~~~BitVec.ofNat 64 b).toNat
theorem zH2 {a b i:Nat} (d:a < 2 ^ 64):(zH1 a b).testBit i=(a.testBit i && !b.testBit i):=by
 unfold zH1
 rw [← BitVec.getLsbD,BitVec.getLsbD_and,BitVec.getLsbD_not,BitVec.getLsbD_ofNat,BitVec.getLsbD_ofNat]
 by_cases c:i < 64
 ·simp [c]
 ·have:a.testBit i=false:=Nat.testBit_lt_two_pow (yK d (wG (by decide) (by omega)))
  simp [c,this]
theorem zH3 {a b:Nat} (d:a < 2 ^ 64):subN (zH1 a b) a:=fun i c=>by rw [zH2 d,jJ] at c;exact c.1
theorem zH4 {a b:Nat} (c:a < 2 ^ 64):zH1 a b≤a:=zHY (zH3 c)
theorem zH5 {a b:Nat} (d:a < 2 ^ 64):zH1 a b=0 ↔ subN a b:=by
 constructor
 ·intro h i c
  have:=zH2 (i:=i) (b:=b) d
  rw [h,c] at this
  simpa using this.symm
 ·intro h
  apply ue
  intro i
  rw [zH2 d,Nat.zero_testBit]
  cases c:a.testBit i
  ·rfl
  ·rw [h i c];rfl
theorem zH6 {k:IntKind} {a:Nat}:BitVec.ofInt k.bits (a:Int)=BitVec.ofNat k.bits a:=by
 apply BitVec.eq_of_toNat_eq;simp [BitVec.toNat_ofInt,BitVec.toNat_ofNat]
theorem zH7 {a:Nat} (h:a < 2 ^ 63):IntKind.i64.wrap (a:Int)=a:=zjz (by omega)
theorem zH8 {a:Nat} (h:a < 2 ^ 64):IntKind.u64.wrap (a:Int)=a:=by
 show ((a:Int) % (2 ^ 64:Int))=a
 omega
theorem zH9 {a b:Nat} (c:a < 2 ^ 63) (d:b < 2 ^ 63):zaE .and .i64 a b=((a &&& b:Nat):Int):=by
 unfold zaE
 rw [zH6,zH6]
 have:(BitVec.ofNat IntKind.i64.bits a &&& BitVec.ofNat IntKind.i64.bits b).toNat=a &&& b:=by
  rw [BitVec.toNat_and,BitVec.toNat_ofNat,BitVec.toNat_ofNat]
  show a % 2 ^ 64 &&& b % 2 ^ 64=_
  rw [uv (by omega),uv (by omega)]
 rw [this]
 exact zH7 (JK Nat.and_le_left c)
theorem zIa {a b:Nat} (c:a < 2 ^ 63) (d:b < 2 ^ 63):zaE .or .i64 a b=((a ||| b:Nat):Int):=by
 unfold zaE
 rw [zH6,zH6]
 have:(BitVec.ofNat IntKind.i64.bits a ||| BitVec.ofNat IntKind.i64.bits b).toNat=a ||| b:=by
  rw [BitVec.toNat_or,BitVec.toNat_ofNat,BitVec.toNat_ofNat]
  show a % 2 ^ 64 ||| b % 2 ^ 64=_
  rw [uv (by omega),uv (by omega)]
 rw [this]
 exact zH7 (Nat.or_lt_two_pow c d)
theorem zIb {a b:Nat} (c:a < 2 ^ 64) (d:b < 2 ^ 64):zaE .or .u64 a b=((a ||| b:Nat):Int):=by
 unfold zaE
 rw [zH6,zH6]
 have:(BitVec.ofNat IntKind.u64.bits a ||| BitVec.ofNat IntKind.u64.bits b).toNat=a ||| b:=by
  rw [BitVec.toNat_or,BitVec.toNat_ofNat,BitVec.toNat_ofNat]
  show a % 2 ^ 64 ||| b % 2 ^ 64=_
  rw [uv c,uv d]
 rw [this]
 exact zH8 (Nat.or_lt_two_pow c d)
theorem zIc {a b:Nat} (c:a < 2 ^ 63):zaE .andNot .i64 a b=((zH1 a b:Nat):Int):=by
 unfold zaE
 rw [zH6,zH6]
 exact zH7 (JK (zH4 (b:=b) (by omega)) c)
theorem zId {a b:Nat} (c:a < 2 ^ 64):zaE .andNot .u64 a b=((zH1 a b:Nat):Int):=by
 unfold zaE
 rw [zH6,zH6]
 exact zH8 (JK (zH4 (b:=b) c) c)
section
variable {both:Nat→Nat→Bool}
def Cliq (both:Nat→Nat→Bool) (s:Nat):Prop:=∀ i k,s.testBit i=true→s.testBit k=true→k < i→both i k=true
def zIe (both:Nat→Nat→Bool) (s m:Nat):Prop:=CovOn both (fun i=>s.testBit i=true) m∧∀ m',CovOn both (fun i=>s.testBit i=true) m'→m≤m'
theorem zIf:zIe both 0 0:=⟨⟨fun _=>0,fun i a=>by simp at a,fun i k a=>by simp at a⟩,fun _ _=>jC _⟩
def zIg (both:Nat→Nat→Bool) (ls:Nat→Nat) (n set rest l cur part:Nat):Prop :=
 CovOn both (fun i=>set.testBit i=true) cur∧cur≤n∧∀ q,subN q rest→part < q→Cliq both (q ||| 2 ^ l)→cur≤1+ls (zH1 rest q)
theorem zIh {q l i:Nat}:(q ||| 2 ^ l).testBit i=(q.testBit i || decide (l=i)):=by rw [Nat.testBit_or,Nat.testBit_two_pow]
theorem zIi {s l i:Nat} (h:s < 2 ^ l) (b:s.testBit i=true):i < l:=by
 rcases wv i l with a|a
 ·exact a
 ·rw [Nat.testBit_lt_two_pow (yK h (wG (by decide) a))] at b;cases b
variable {ls:Nat→Nat} {n set rest l:Nat}
theorem zIj (a:set < 2 ^ n):zIg both ls n set rest l n rest :=
 ⟨CovOn.id fun i b=>zIi a b,qV _,fun q c d=>absurd (zHY c) (by omega)⟩
theorem zIk {cur a:Nat} (H:zIg both ls n set rest l cur a) (f:∀ i,set.testBit i=true ↔ (rest.testBit i=true∨i=l)) (j:rest < 2 ^ l) (y:l < 64) (z:subN a rest)
  (o:∀ s,s≤rest→zIe both s (ls s)) (p:Cliq both (a ||| 2 ^ l)):CovOn both (fun i=>set.testBit i=true) (min cur (1+ls (zH1 rest a))):=by
 have d:rest < 2 ^ 64:=yK j (wG (by decide) (by omega))
 rcases Nat.le_total cur (1+ls (zH1 rest a)) with h|h
 ·rw [Ja h];exact H.1
 ·rw [Nat.min_eq_right h]
  refine CovOn.add (r:=fun i=>rest.testBit i=true) (q:=fun i=>a.testBit i=true) (l:=l) (fun i c=>((f i).1 c).symm) (fun i c=>zIi j c) (fun i c m=>p l i (by rw [zIh];simp) (by rw [zIh,m];rfl) (zIi j c)) (fun i k c t m u w=>p i k (by rw [zIh,m];rfl) (by rw [zIh,u];rfl) w) ?_
  obtain ⟨g,x,h2⟩:=(o _ (zH4 (b:=a) d)).1
  have e:∀ i,(zH1 rest a).testBit i=true ↔ (rest.testBit i=true∧¬ a.testBit i=true):=fun i=>by rw [zH2 d];simp
  exact ⟨g,fun i c=>x i ((e i).2 c),fun i k c t=>h2 i k ((e i).2 c) ((e k).2 t)⟩
theorem zIl {cur b a:Nat} (H:zIg both ls n set rest l cur a) (g:subN a rest) (e:CovOn both (fun i=>set.testBit i=true) b) (c:b≤cur) (j:Cliq both (a ||| 2 ^ l)→b≤1+ls (zH1 rest a)) :
  zIg both ls n set rest l b ((a - 1) &&& rest):=by
 refine ⟨e,wK c H.2.1,fun q f k d=>?_⟩
 rcases Nat.lt_trichotomy q a with h|rfl|h
 ·exact absurd (zHZ f g h) (by omega)
 ·exact j d
 ·exact wK c (H.2.2 q f h d)
theorem zIm {cur:Nat} (j:CovOn both (fun i=>set.testBit i=true) cur) (m:∀ q,subN q rest→Cliq both (q ||| 2 ^ l)→cur≤1+ls (zH1 rest q)) (f:∀ i,set.testBit i=true ↔ (rest.testBit i=true∨i=l)) (n:rest < 2 ^ l) (H:l < 64)
  (p:∀ s,s≤rest→zIe both s (ls s)):zIe both set cur:=by
 have h:rest < 2 ^ 64:=yK n (wG (by decide) (by omega))
 refine ⟨j,fun w x=>?_⟩
 obtain ⟨Q,h0,y,h2,z⟩:=CovOn.cut (r:=fun i=>rest.testBit i=true) ((f l).2 (.inr rfl)) (fun i a=>(f i).2 (.inl a)) (fun i a=>zIi n a) x
 obtain ⟨q,d⟩:=zH0 Q rest
 have o:subN q rest:=fun i a=>((d i).1 a).1
 have t:Cliq both (q ||| 2 ^ l):=by
  intro i k a c u
  rw [zIh,jQ,JD] at a c
  rcases a with a|rfl
  ·rcases c with c|rfl
   ·exact h2 i k ((d i).1 a).1 ((d k).1 c).1 ((d i).1 a).2 ((d k).1 c).2 u
   ·have:=zIi n ((d i).1 a).1;omega
  ·rcases c with c|rfl
   ·exact y k ((d k).1 c).1 ((d k).1 c).2
   ·omega
 have J:=m q o t
 have K:=(p _ (zH4 (b:=q) h)).2 (w - 1) (by
  obtain ⟨g,D,F⟩:=z
  have e:∀ i,(zH1 rest q).testBit i=true→(rest.testBit i=true∧¬ Q i):=fun i a=>by
   rw [zH2 h] at a
   simp only [jJ,jd] at a
   refine ⟨a.1,fun G=>?_⟩
   rw [(d i).2 ⟨a.1,G⟩] at a;cases a.2
  exact ⟨g,fun i a=>D i (e i a),fun i k a c=>F i k (e i a) (e k c)⟩)
 omega
theorem zIn {q:Nat} (d:subN q rest) (c:rest < 2 ^ l):Cliq both (q ||| 2 ^ l) ↔ Cliq both q∧∀ k,q.testBit k=true→both l k=true:=by
 constructor
 ·intro h
  exact ⟨fun i k b a=>h i k (by rw [zIh,b];rfl) (by rw [zIh,a];rfl),fun k a=>h l k (by rw [zIh];simp) (by rw [zIh,a];rfl) (zIi c (d k a))⟩
 ·rintro ⟨f,h2⟩ i k b a e
  rw [zIh,jQ,JD] at b a
  rcases b with b|rfl
  ·rcases a with a|rfl
   ·exact f i k b a e
   ·have:=zIi c (d i b);omega
  ·rcases a with a|rfl
   ·exact h2 k a
   ·omega
end
open Go Go.RowKit
def zIo (p:Nat→Bool):Nat→Nat
 | 0=>0
 | k+1=>zIo p k ||| (if p k=true then 2 ^ k else 0)
theorem zIp {p:Nat→Bool} {i:Nat}:∀ {k:Nat},(zIo p k).testBit i=(decide (i < k) && p i)
 | 0=>by simp [zIo]
 | k+1=>by
  unfold zIo
  rw [Nat.testBit_or,zIp]
  by_cases a:p k=true
  ·rw [if_pos a,Nat.testBit_two_pow]
   by_cases b:k=i
   ·subst b;simp [a]
   ·have:decide (i < k+1)=decide (i < k):=by simp;omega
    simp [b,this]
  ·rw [if_neg a,Nat.zero_testBit,wC]
   by_cases b:k=i
   ·subst b;simp [a]
   ·have:decide (i < k+1)=decide (i < k):=by simp;omega
    rw [this]
theorem zIq {p:Nat→Bool} {k:Nat}:zIo p k < 2 ^ k:=by
 apply Nat.lt_pow_two_of_testBit
 intro i a
 rw [zIp,decide_eq_false (by omega)];rfl
open Go Go.RowKit
def Sl.fr {α:Type} [Enc α] (s:Sl α) (k:Nat):Sl α:=⟨if s.cap=k then s.a else s.a.map (·.add (k * Enc.size α)),s.cap - k,s.l.drop k⟩
theorem Sl.fr_ok {α:Type} [Enc α] {h:Hp} {s:Sl α} (H:s.Ok h) (k:Nat):(s.fr k).Ok h:=by
 have d:(s.fr k).l.length=s.l.length - k:=ub ..
 have n:=H.1
 refine ⟨by rw [d];show _≤s.cap - k;omega,fun f=>?_,fun i x c=>?_,fun x c=>H.2.2.2.1 x (yA c),by show s.cap - k≤_;have:=H.2.2.2.2;omega⟩
 ·have g:s.l ≠ []:=fun e=>f (by show s.l.drop k=[];rw [e,List.drop_nil])
  have:=H.2.1 g
  show (if s.cap=k then s.a else s.a.map _).isSome=true
  split
  ·exact this
  ·rw [Option.isSome_map];exact this
 ·have b:(s.l.drop k)[i]?=some x:=c
  rw [uF] at b
  have:=H.2.2.1 (k+i) x b
  have m:=(List.getElem?_eq_some_iff.1 b).1
  have j:¬ s.cap=k:=by omega
  show h.lds ((if s.cap=k then s.a else s.a.map (·.add (k * Enc.size α))).map (·.add (i * Enc.size α))) _=_
  rw [if_neg j,Option.map_map]
  have e:((fun x:Addr=>x.add (i * Enc.size α)) ∘ fun x:Addr=>x.add (k * Enc.size α))=fun x:Addr=>x.add ((k+i) * Enc.size α):=by
   funext y;simp only [Function.comp,zir,yP]
  rw [e]
  exact this
theorem zLx {α:Type} [Enc α] {s:Sl α} {k:Nat} (b:k≤s.l.length):Value.slice (if s.cap=k then s.a else s.a.map (·.add (k * Enc.size α))) (s.l.length - k) (s.cap - k)=(s.fr k).val:=by
 show _=Value.slice _ (s.l.drop k).length _
 rw [ub];rfl
theorem zLy {α:Type} [Enc α] {s:Sl α} {k:Nat} {a:Prop} {L:SV→Prop} (b:k≤s.l.length):zgh a (k:Int) (s.l.length:Int) s.val (Enc.size α) L=(a∧L (.c (.v (s.fr k).val))):=by
 rw [zgj,← zLx b];rfl
open Go Go.RowKit Go.ChangeShapes Go.WideShapes Go.Deep
structure U8 where
 n:Int
deriving DecidableEq
instance:Enc U8 where
 size:=1
 enc u:=[.int .u8 u.n]
 len _:=rfl
 one n u hu:=by simp only [ya] at hu;subst hu;rfl
 ok _ u:=0≤u.n∧u.n < 256
 mono _ H:=H
@[go_sem] theorem zLz {b:U8}:Enc.enc b=[.int .u8 b.n]:=rfl
def Cu (tc:TypeId) (c:Sl U8) (h:Hp) (b:Nat):Prop:=c.Ok (h.del b)∧∃ (i k:Int),h b=some (.cells #[c.val,.int .i64 i,.int .i64 k] tc (0,0))∧0≤i∧i≤c.l.length
def Cg (tc:TypeId) (c:Sl U8) (h:Hp) (b:Nat) (h':Hp):Prop:=Cu tc c h' b∧(h.del b).le (h'.del b)
theorem zLA {h h2:Hp} {b:Nat} (c:h.le h2):(h.del b).le (h2.del b):=fun q o a=>by
 simp only [Hp.del] at a ⊢
 split at a
 ·cases a
 ·rename_i d;rw [if_neg d];exact c q o a
section
variable {tc:TypeId} {c:Sl U8} {h h2 h3:Hp} {b:Nat}
theorem Cu.ne (H:Cu tc c h b):h b ≠ none:=by
 obtain ⟨_,i,k,a,_⟩:=H
 rw [a];exact fun e=>by cases e
theorem Cu.grow (H:Cu tc c h b) (a:h.le h2):Cu tc c h2 b:=by
 obtain ⟨d,i,k,e,f⟩:=H
 exact ⟨d.mono (zLA a),i,k,a _ _ e,f⟩
theorem Cg.refl (H:Cu tc c h b):Cg tc c h b h:=⟨H,Hp.le_refl _⟩
theorem Cg.trans (H:Cg tc c h b h2) (K:Cg tc c h2 b h3):Cg tc c h b h3:=⟨K.1,Hp.le_trans H.2 K.2⟩
theorem Cg.grow (H:Cg tc c h b h2) (a:h2.le h3):Cg tc c h b h3:=⟨H.1.grow a,Hp.le_trans H.2 (zLA a)⟩
theorem Cg.fresh (H:Cg tc c h b h2) {g:Nat} (d:h2 g=none):h g=none∧g ≠ b:=by
 have a:g ≠ b:=fun e=>H.1.ne (by rw [← e];exact d)
 refine ⟨?_,a⟩
 cases f:h g with
 | none=>rfl
 | some o =>
  have:=H.2 g o (by rw [Hp.del_ne a];exact f)
  rw [Hp.del_ne a,d] at this
  cases this
end
theorem Cg.adopt {tc:TypeId} {c:Sl U8} {h h2 h3:Hp} {b:Nat} {α:Type} [Enc α] {e t:TypeId} {s:Sl α} {u n:Nat} {xs:List Value} {w:Option Addr} {cap:Nat} (G:Cg tc c h b h2) (x:c.Ok (h.del b)) (R:RowAt e h2 s) (fr:∀ g,s.a=some ⟨g,0,none⟩→h g=none∧g ≠ b) (P:Pub (zD4 h2 s) t u n xs w cap h3) :
  Cg tc c h b h3∧zD4 h2 s b ≠ none:=by
 have j:(h.del b).le (h3.del b):=fun q o d=>by
  by_cases e:q=b
  ·subst e;rw [Hp.del_same] at d;cases d
  ·rw [Hp.del_ne e] at d ⊢
   have m:=G.2 q o (by rw [Hp.del_ne e];exact d)
   rw [Hp.del_ne e] at m
   refine P.le q o ?_
   rw [zEC fun a f l=>?_]
   ·exact m
   ·have:=(fr a.block (by rw [f];exact congrArg some (R.blk a f))).1
    rw [← l,d] at this;cases this
 obtain ⟨_,i,k,p,y⟩:=G.1
 have r:zD4 h2 s b=h2 b:=zEC fun a f l=>(fr a.block (by rw [f];exact congrArg some (R.blk a f))).2 l.symm
 exact ⟨⟨⟨x.mono j,i,k,P.le _ _ (by rw [r];exact p),y⟩,j⟩,by rw [r,p];exact fun e=>by cases e⟩
open Go Go.RowKit
open Go Go.RowKit
open Go Go.RowKit
theorem Cg.ins {tc:TypeId} {c:Sl U8} {h h2:Hp} {b g:Nat} {o:Obj} (G:Cg tc c h b h2) (l:c.Ok (h.del b)) (m:h g=none) (f:g ≠ b):Cg tc c h b (h2.ins g o):=by
 have d:(h.del b).le ((h2.ins g o).del b):=fun q n a=>by
  by_cases e:q=b
  ·subst e;rw [Hp.del_same] at a;cases a
  ·have j:=G.2 q n a
   rw [Hp.del_ne e] at a j ⊢
   rw [Hp.ins_ne fun p=>by rw [p,m] at a;cases a]
   exact j
 obtain ⟨_,i,k,r,s⟩:=G.1
 exact ⟨⟨l.mono d,i,k,by rw [Hp.ins_ne (Ne.symm f)];exact r,s⟩,d⟩
open Go Go.RowKit
def vopY (x:Cx) (ops:List Oper) (st:St) (o:Oper) (K:St→Prop):Prop:=vgd ops st o.guard fun g=>g=true∧vopX x st { o with guard:=none } K
def vopN (x:Cx) (ops:List Oper) (st:St) (o:Oper) (K:St→Prop) (m:Nat):Prop:=if m=7 then vopY x ops st o K else vopM x ops st o K m
def zLB (x:Cx) (ops:List Oper) (K:St→Prop):List Nat→List Oper→St→Prop
 | [],l,st=>vops x.P ops l st K
 | m :: ms,o :: l,st=>vopN x ops st o (fun st'=>zLB x ops K ms l st') m
 | _ :: _,[],_=>False
section
variable {x:Cx} {st:St} {Q:Exit→St→Prop}
end
section
variable {x:Cx} {st:St} {o:Oper} {l ops:List Oper} {m:Nat} {ms:List Nat} {K:St→Prop}
@[go_sem] theorem zLC:zLB x ops K [] l st=vops x.P ops l st K:=by cases l <;> rfl
@[go_sem] theorem zLD:zLB x ops K (0 :: ms) (o :: l) st=vop x.P ops st o (fun a=>zLB x ops K ms l a):=rfl
@[go_sem] theorem zLE {d:Option Nat} {op:Op} {ty:TypeId} {p:String} {a:Array Edge} {b:Option (Nat × Bool)}:zLB x ops K (7 :: ms) (⟨d,op,ty,p,a,b⟩ :: l) st=vgd ops st b fun g=>g=true∧vopX x st ⟨d,op,ty,p,a,none⟩ (fun c=>zLB x ops K ms l c):=rfl
@[congr] theorem zLF {a:St} (h:st=a):zLB x ops K ms l st=zLB x ops K ms l a:=by rw [h]
end
open Go Go.RowKit
theorem zLG {α:Type} [Enc α] {e:TypeId} {h:Hp} {s:Sl α} {i:Nat} {w:α} (H:RowAt e h s) (b:i < s.l.length) :
  ∃ g cur,s.a=some ⟨g,0,none⟩∧h g=some (.cells cur e (0,0))∧i * Enc.size α+Enc.size α≤cur.size∧RowAt e (h.ins g (.cells (spl (i * Enc.size α) (Enc.enc w) cur.toList).toArray e (0,0))) ⟨s.a,s.cap,s.l.set i w⟩:=by
 obtain ⟨j,h2,⟨c,n,u⟩|⟨g,cur,c,o,p,k⟩⟩:=H
 ·rw [n] at b;cases b
 ·have q:i * Enc.size α+Enc.size α≤s.l.length * Enc.size α:=by
   have:(i+1) * Enc.size α≤s.l.length * Enc.size α:=wP _ b
   rwa [yP,JQ] at this
  have r:s.l.length * Enc.size α≤s.cap * Enc.size α:=wP _ j
  have t:cur.toList.length=cur.size:=uA
  have d:cur.toList=rowL s.l (cur.toList.drop (s.l.length * Enc.size α)):=by
   rw [rowL,← k,yk]
  have m:spl (i * Enc.size α) (Enc.enc w) cur.toList=rowL (s.l.set i w) (cur.toList.drop (s.l.length * Enc.size α)):=by
   conv=>lhs;rw [d]
   exact zm1 b
  have f:(spl (i * Enc.size α) (Enc.enc w) cur.toList).length=cur.toList.length:=zmp (by rw [Enc.len];omega)
  refine ⟨g,cur,c,o,by omega,by rw [wc];exact j,h2,.inr ⟨g,_,c,Hp.ins_same,?_,?_⟩⟩
  ·rw [qK,f];omega
  ·show ((spl (i * Enc.size α) (Enc.enc w) cur.toList).toArray.toList).take ((s.l.set i w).length * Enc.size α)=(s.l.set i w).flatMap Enc.enc
   rw [jE,m,rowL,uP]
   rw [ziq Enc.len]
theorem zLH {x:Cx} {st:St} {f:Hp→Prop} {t:TypeId} {b off:Nat} {us:List Value} {cur:Array Value} {e:TypeId} (k:hasT x.P t=true) (i:szT x.P t=us.length) (l:us.all Value.oneCell'=true) (m:st.h b=some (.cells cur e (0,0))) (a:x.h0 b=none∨x.W0.own b) (j:off+us.length≤cur.size)
  (n:f (st.h.ins b (.cells (spl off us cur.toList).toArray e (0,0)))):zlN x st t (.c (.v (.pointer (some ⟨b,off,none⟩)))) (.g (us.map SC.v)) f:=by
 unfold zlN
 have d:SV.cells (.g (us.map SC.v))=us.map SC.v:=rfl
 have o:(us.map SC.v).map (·.val)=us:=by rw [yj];exact List.map_id' us
 refine ⟨k,?_,?_,?_,b,off,cur,e,rfl,m,a,by rw [i];exact j,?_⟩
 ·rw [show (SV.g (us.map SC.v)).plain=(us.map SC.v).all zb7 from rfl,List.all_map];exact List.all_eq_true.2 fun _ _=>rfl
 ·rw [d,List.all_map];exact l
 ·rw [d,jH,i]
 ·rw [d,o];exact n
end Go.SL
