/- Plain theorems about the model. -/
import Derived.Deep.Quiet
import Derived.Great.BuildSlice
import Derived.Great.FillDense
import Derived.Maps.AppendAt
import Derived.WalkKit
set_option linter.unusedVariables false
set_option linter.unusedSimpArgs false
set_option maxRecDepth 4000
open Bool renaming and_eq_true → jJ, true_and → qp, false_eq_true → qW, not_false → wq, not_true → wj
open Int renaming toNat_natCast → jW
open Option renaming isSome_some → jX, getD_some → jc, map_some → qq, bind_some → yf, isSome_none → yG
open List renaming getD_eq_getElem?_getD → ja, length_map → jH, length_cons → qv, size_toArray → qK, getElem?_eq_getElem → qX, getElem_mem → qd, mem_cons_of_mem → qg, mem_cons_self → qC, length_take → ww, map_cons → wx, all_eq_true → wY, map_congr_left → wb, length_set → wc, foldl_cons → wH, map_map → yj, append_assoc → yx, mem_append → ye, mem_of_mem_drop → yA, mem_of_mem_take → yB, getElem?_map → yC, map_nil → yD, getElem?_take → yF, eq_nil_of_length_eq_zero → uj, getElem?_eq_none → uE, getElem?_drop → uF, getElem?_cons_zero → Jw
open Nat renaming zero_add → jb, zero_le → jC, add_zero → qJ, le_refl → qV, lt_or_ge → wv, le_trans → wK, mul_le_mul_right → wP, add_comm → uV, lt_succ_self → Jc
open Array renaming getD_eq_getD_getElem? → yL, getElem?_setIfInBounds_ne → uB, toList_map → uG
namespace Go.SL
theorem Jg.{u} (α:Sort u):(α→True)=True:=implies_true α
theorem JA (p:Prop):(True∧p)=p:=true_and p
theorem JB (p:Prop):(p∧True)=p:=and_true p
theorem JC (p:Prop):(p∧p)=p:=and_self p
theorem JD {p:Prop} [Decidable p]:(decide p=true)=p:=decide_eq_true_eq
theorem JE {p:Prop} [inst:Decidable p] (h:decide p=true):p:=of_decide_eq_true h
theorem JF {p:Prop} [inst:Decidable p] (h:decide p=false):¬ p:=of_decide_eq_false h
theorem JG {p:Prop} [inst:Decidable p] (h:p):decide p=true:=decide_eq_true h
theorem JH {p:Prop} [inst:Decidable p]:(decide p=false) ↔ ¬ p:=decide_eq_false_iff_not
open Go Go.RowKit
abbrev Hp:=Nat→Option Obj
def Hp.le (h h':Hp):Prop:=∀ b o,h b=some o→h' b=some o
def Sees (h:Hp) (W:World):Prop:=∀ b o,h b=some o→W.heap[b]?=some o
theorem Hp.le_refl (h:Hp):h.le h:=fun _ _ x=>x
theorem Hp.le_trans {a b c:Hp} (h:a.le b) (k:b.le c):a.le c:=fun x o y=>k x o (h x o y)
def Hp.cell (h:Hp) (a:Addr):Option Value :=
 match h a.block with
 | some (.cells c _ _)=>if a.spot.isSome then none else c[a.off]?
 | _=>none
theorem zaa {h:Hp} {W:World} {a:Addr} {v:Value} (d:Sees h W) (b:h.cell a=some v):W.cell? a=some v:=by
 unfold Hp.cell at b
 split at b
 ·rename_i c _ _ e
  simp only [World.cell?,d _ _ e]
  exact b
 ·cases b
theorem zab {h h':Hp} {a:Addr} {v:Value} (d:h.le h') (b:h.cell a=some v):h'.cell a=some v:=by
 unfold Hp.cell at b ⊢
 split at b
 ·rename_i c _ _ e
  simp only [d _ _ e]
  exact b
 ·cases b
def Hp.cellsAt (h:Hp) (a:Addr):Nat→Nat→Option (List Value)
 | _,0=>some []
 | i,n+1=>match h.cell (a.add i),h.cellsAt a (i+1) n with
  | some v,some l=>some (v :: l)
  | _,_=>none
def Hp.lds (h:Hp) (q:Option Addr) (n:Nat):Option (List Value) :=
 match q with
 | some a=>h.cellsAt a 0 n
 | none=>none
def Hp.ldD (h:Hp) (q:Option Addr) (n:Nat):List Value:=(h.lds q n).getD []
theorem zac {h:Hp} {a:Addr}:∀ {n i:Nat} {l:List Value},h.cellsAt a i n=some l→l.length=n∧∀ j v,l[j]?=some v→h.cell (a.add (i+j))=some v
 | 0,i,l,e=>by simp only [Hp.cellsAt,Option.some.injEq] at e;subst e;simp
 | n+1,i,l,e=>by
  simp only [Hp.cellsAt] at e
  split at e
  ·rename_i v g c d
   simp only [Option.some.injEq] at e
   subst e
   obtain ⟨f,h2⟩:=zac d
   refine ⟨by simp [f],fun j u b=>?_⟩
   cases j with
   | zero=>simp at b;subst b;simpa using c
   | succ j=>simp at b;have:=h2 j u b;rwa [show i+(j+1)=i+1+j by omega]
  ·cases e
theorem zad {h:Hp} {a:Addr}:∀ {n i:Nat} {l:List Value},l.length=n→(∀ j v,l[j]?=some v→h.cell (a.add (i+j))=some v)→h.cellsAt a i n=some l
 | 0,i,l,e,_=>by rw [List.length_eq_zero_iff] at e;subst e;rfl
 | n+1,i,[],e,_=>by cases e
 | n+1,i,v :: l,e,b=>by
  have h0:=b 0 v rfl
  have c:=zad (h:=h) (a:=a) (n:=n) (i:=i+1) (l:=l) (by simpa using e) (fun j u d=>by have:=b (j+1) u (by simpa using d);rwa [show i+1+j=i+(j+1) by omega])
  simp only [qJ] at h0
  simp [Hp.cellsAt,h0,c]
theorem zae {h h':Hp} (b:h.le h') {a:Addr} {n i:Nat} {l:List Value} (e:h.cellsAt a i n=some l):h'.cellsAt a i n=some l :=
 let ⟨h1,h2⟩:=zac e
 zad h1 fun j v c=>zab b (h2 j v c)
theorem zaf {h h':Hp} (b:h.le h') {q:Option Addr} {n:Nat} {l:List Value} (e:h.lds q n=some l):h'.lds q n=some l:=by
 cases q with
 | none=>cases e
 | some a=>exact zae b e
theorem zag {h:Hp} {q:Option Addr} {n:Nat} {l:List Value} (e:h.lds q n=some l):h.ldD q n=l:=by simp [Hp.ldD,e]
def szT (P:Program) (t:TypeId):Nat:=P.cellsOf t
def aggT (P:Program) (t:TypeId):Bool:=match P.underlying t with|some (.struct _)|some (.array ..)=>true|_=>false
inductive SC where
 | v (x:Value)
 | p (r o:Nat)
 | s (r:Nat)
inductive SV where
 | c (x:SC)
 | g (cs:List SC)
def blk:Value→Nat
 | .pointer (some a)=>a.block
 | .slice (some a) _ _=>a.block
 | _=>0
abbrev Rho:=Nat→Value
def SC.conc (ρ:Rho):SC→Value
 | .v x=>x
 | .p r o=>.pointer (some ⟨blk (ρ r),o,none⟩)
 | .s r=>ρ r
def SV.conc (ρ:Rho):SV→Value
 | .c x=>x.conc ρ
 | .g cs=>.agg (cs.map (·.conc ρ)).toArray
@[simp] theorem zah (ρ:Rho) (x:Value):(SC.v x).conc ρ=x:=rfl
@[simp] theorem zai (ρ:Rho) (r o:Nat):(SC.p r o).conc ρ=.pointer (some ⟨blk (ρ r),o,none⟩):=rfl
@[simp] theorem zaj (ρ:Rho) (r:Nat):(SC.s r).conc ρ=ρ r:=rfl
@[simp] theorem zak (ρ:Rho) (x:SC):(SV.c x).conc ρ=x.conc ρ:=rfl
@[simp] theorem zal (ρ:Rho) (cs:List SC):(SV.g cs).conc ρ=.agg (cs.map (·.conc ρ)).toArray:=rfl
def SV.of:Value→SV
 | .agg cs=>.g (cs.toList.map .v)
 | v=>.c (.v v)
theorem SV.conc_of (ρ:Rho) (v:Value):(SV.of v).conc ρ=v:=by
 unfold SV.of
 split
 ·simp [SV.conc,SC.conc,yj,Function.comp_def]
 ·rfl
inductive PB where
 | box (ty:TypeId) (cs:List SC)
 | row (e:TypeId) (sz n:Nat) (xs:List Value)
def look {α:Type} (t:Nat):List (Nat × α)→Option α
 | []=>none
 | (k,x) :: l=>if k=t then some x else look t l
abbrev Env:=List (Nat × Bool × SV)
structure St where
 e:Env
 p:List (Nat × PB)
 h:Hp
 nx:Nat
def SC.lt (n:Nat):SC→Bool
 | .v _=>true
 | .p r _=>r < n
 | .s r=>r < n
def SV.lt (n:Nat):SV→Bool
 | .c x=>x.lt n
 | .g cs=>cs.all (·.lt n)
def PB.lt (n:Nat):PB→Bool
 | .box _ cs=>cs.all (·.lt n)
 | .row ..=>true
def zam (n:Nat):Env→Bool
 | []=>true
 | (_,_,sv) :: l=>sv.lt n && zam n l
def pbLt (n:Nat):List (Nat × PB)→Bool
 | []=>true
 | (r,b) :: l=>decide (r < n) && b.lt n && pbLt n l
def St.wf (st:St):Bool:=zam st.nx st.e && pbLt st.nx st.p
theorem SC.conc_congr {n:Nat} {ρ ρ':Rho} (b:∀ r,r < n→ρ r=ρ' r) {x:SC} (a:x.lt n=true):x.conc ρ=x.conc ρ':=by
 cases x with
 | v x=>rfl
 | p r o=>simp only [SC.lt,JD] at a;simp [SC.conc,b r a]
 | s r=>simp only [SC.lt,JD] at a;simp [SC.conc,b r a]
theorem SV.conc_congr {n:Nat} {ρ ρ':Rho} (b:∀ r,r < n→ρ r=ρ' r) {x:SV} (a:x.lt n=true):x.conc ρ=x.conc ρ':=by
 cases x with
 | c x=>exact SC.conc_congr b a
 | g cs =>
  simp only [SV.lt,wY] at a
  simp only [SV.conc]
  congr 2
  exact wb fun y d=>SC.conc_congr b (a y d)
theorem zan {n t:Nat}:∀ {e:Env} {c:Bool} {sv:SV},zam n e=true→look t e=some (c,sv)→sv.lt n=true
 | [],_,_,_,h=>by cases h
 | (k,d,b) :: l,c,sv,a,h=>by
  simp only [zam,jJ] at a
  simp only [look] at h
  split at h
  ·simp only [Option.some.injEq,Prod.mk.injEq] at h;rw [← h.2];exact a.1
  ·exact zan a.2 h
theorem zao {n t:Nat}:∀ {p:List (Nat × PB)} {b:PB},pbLt n p=true→look t p=some b→t < n∧b.lt n=true
 | [],_,_,h=>by cases h
 | (k,d) :: l,b,a,h=>by
  simp only [pbLt,jJ,JD] at a
  simp only [look] at h
  split at h
  ·rename_i c;simp only [Option.some.injEq] at h;rw [← h,← c];exact ⟨a.1.1,a.1.2⟩
  ·exact zao a.2 h
theorem zap {n m:Nat} (d:n≤m):∀ {e:Env},zam n e=true→zam m e=true
 | [],_=>rfl
 | (_,_,sv) :: l,h=>by
  simp only [zam,jJ] at h ⊢
  refine ⟨?_,zap d h.2⟩
  have b:=h.1
  have a:∀ x:SC,x.lt n=true→x.lt m=true:=fun x f=>by cases x <;> simp_all [SC.lt] <;> omega
  cases sv with
  | c x=>exact a x b
  | g cs=>simp only [SV.lt,wY] at b ⊢;exact fun x f=>a x (b x f)
theorem zaq {n m:Nat} (a:n≤m):∀ {p:List (Nat × PB)},pbLt n p=true→pbLt m p=true
 | [],_=>rfl
 | (r,b) :: l,h=>by
  simp only [pbLt,jJ,JD] at h ⊢
  refine ⟨⟨by omega,?_⟩,zaq a h.2⟩
  have c:=h.1.2
  have d:∀ x:SC,x.lt n=true→x.lt m=true:=fun x e=>by cases x <;> simp_all [SC.lt] <;> omega
  cases b with
  | box ty cs=>simp only [PB.lt,wY] at c ⊢;exact fun x e=>d x (c x e)
  | row=>rfl
def PB.ok (base:Nat) (ρ:Rho) (r:Nat) (W:World):PB→Prop
 | .box ty cs=>∃ g,ρ r=.pointer (some ⟨g,0,none⟩)∧base≤g∧W.heap[g]?=some (.cells (cs.map (·.conc ρ)).toArray ty (0,0))
 | .row e sz n xs=>W.ownsRow base e sz (ρ r) n xs
def PB.at (ρ:Rho) (r:Nat) (g:Nat):Prop:=ρ r=.pointer (some ⟨g,0,none⟩)∨∃ n c,ρ r=.slice (some ⟨g,0,none⟩) n c
structure Base where
 w:World
 own:Nat→Prop
 big:∀ g,w.heap.size≤g→own g
structure BelowO (B:Base) (W:World):Prop where
 os:W.os=B.w.os
 tape:W.tape=B.w.tape
 output:W.output=B.w.output
 size:B.w.heap.size≤W.heap.size
 block:∀ k,¬ B.own k→W.heap[k]?=B.w.heap[k]?
theorem BelowO.trans {B:Base} {W b:World} (h:BelowO B W) (k:Below B.w.heap.size W b):BelowO B b :=
 ⟨k.os.trans h.os,k.tape.trans h.tape,k.output.trans h.output,wK h.size k.size,fun i c=>(k.block i (by
  rcases wv i B.w.heap.size with a|a
  ·exact a
  ·exact (c (B.big i a)).elim)).trans (h.block i c)⟩
theorem BelowO.step {B:Base} {W a:World} (h:BelowO B W) (o:a.os=W.os) (t:a.tape=W.tape) (u:a.output=W.output) (s:W.heap.size≤a.heap.size) (k:∀ i,¬ B.own i→i < W.heap.size→a.heap[i]?=W.heap[i]?):BelowO B a :=
 ⟨o.trans h.os,t.trans h.tape,u.trans h.output,wK h.size s,fun i b=>(k i b (by
  rcases wv i W.heap.size with c|c
  ·exact c
  ·exact (b (B.big i (wK h.size c))).elim)).trans (h.block i b)⟩
structure WOk (W0:Base) (h0:Hp) (ρ:Rho) (p:List (Nat × PB)) (h:Hp) (W:World):Prop where
 below:BelowO W0 W
 sees:Sees h W
 ext:∀ b o,h0 b=some o→¬ W0.own b→h b=some o
 new:∀ b o,h b=some o→h0 b=none→W0.own b
 own:∀ r b g,look r p=some b→PB.at ρ r g→W0.own g
 priv:∀ r b,look r p=some b→b.ok 0 ρ r W
 apart:∀ r b g,look r p=some b→PB.at ρ r g→h g=none
 distinct:∀ r b r' b' g,look r p=some b→look r' p=some b'→PB.at ρ r g→PB.at ρ r' g→r=r'
def FOk (N:Nat) (ρ:Rho) (e:Env) (a:Act):Prop :=
 a.defers=[]∧a.tmps.size=N∧∀ t c sv,look t e=some (c,sv)→a.tmps[t]?=some (if c=true then sv.conc ρ else undef)
def Conc (W0:Base) (h0:Hp) (N:Nat) (st:St) (a:Act) (W:World):Prop :=
 ∃ ρ,FOk N ρ st.e a∧WOk W0 h0 ρ st.p st.h W∧st.wf=true
open Go Go.RowKit
def Value.I:Value→Int|.int _ n=>n|_=>0
def Value.isI (k:IntKind):Value→Prop|.int k' _=>k'=k|_=>False
def Value.B:Value→Bool|.bool b=>b|_=>false
def Value.isB:Value→Prop|.bool _=>True|_=>False
def Value.S:Value→ByteArray|.string s=>s|_=>ByteArray.empty
def Value.isS:Value→Prop|.string _=>True|_=>False
def Value.P:Value→Option Addr|.pointer a=>a|_=>none
def Value.isP:Value→Prop|.pointer (some _)=>True|_=>False
def Value.A:Value→Option Addr|.slice a _ _=>a|_=>none
def Value.L:Value→Nat|.slice _ n _=>n|_=>0
def Value.C:Value→Nat|.slice _ _ c=>c|_=>0
def Value.isA:Value→Prop|.slice _ _ _=>True|_=>False
def Value.T:Value→List Value|.tuple vs=>vs.toList|_=>[]
def Value.isT (n:Nat):Value→Prop|.tuple vs=>n < vs.size|_=>False
theorem zar {k:IntKind} {v:Value} (h:Value.isI k v):v=.int k (Value.I v):=by cases v <;> simp_all [Value.isI,Value.I]
theorem zas {v:Value} (h:Value.isB v):v=.bool (Value.B v):=by cases v <;> simp_all [Value.isB,Value.B]
theorem zat {v:Value} (h:Value.isS v):v=.string (Value.S v):=by cases v <;> simp_all [Value.isS,Value.S]
theorem zau {v:Value} (h:Value.isP v):∃ a,v=.pointer (some a)∧Value.P v=some a:=by
 cases v with
 | pointer a=>cases a <;> simp_all [Value.isP,Value.P]
 | _=>cases h
theorem zav {v:Value} (h:Value.isA v):v=.slice (Value.A v) (Value.L v) (Value.C v):=by cases v <;> simp_all [Value.isA,Value.A,Value.L,Value.C]
theorem zaw {n:Nat} {v:Value} (h:Value.isT n v):∃ vs:Array Value,v=.tuple vs∧vs[n]?=some ((Value.T v).getD n undef):=by
 cases v with
 | tuple vs =>
  simp only [Value.isT] at h
  exact ⟨vs,rfl,by simp [Value.T,h]⟩
 | _=>cases h
def SC.val:SC→Value|.v x=>x|_=>undef
def SV.val:SV→Value|.c x=>x.val|.g _=>undef
def SV.cells:SV→List SC|.g cs=>cs|.c (.v (.agg cs))=>cs.toList.map .v|.c x=>[x]
theorem zax {ρ:Rho} {k:IntKind} {x:SV} (h:Value.isI k x.val):x.conc ρ=.int k (Value.I x.val):=by
 cases x with
 | c x=>cases x with
  | v x=>exact zar h
  | _=>cases h
 | g=>cases h
theorem zay {ρ:Rho} {x:SV} (h:Value.isB x.val):x.conc ρ=.bool (Value.B x.val):=by
 cases x with
 | c x=>cases x with
  | v x=>exact zas h
  | _=>cases h
 | g=>cases h
theorem zaz {ρ:Rho} {x:SV} (h:Value.isS x.val):x.conc ρ=.string (Value.S x.val):=by
 cases x with
 | c x=>cases x with
  | v x=>exact zat h
  | _=>cases h
 | g=>cases h
theorem zaA {ρ:Rho} {n:Nat} {x:SV} (h:Value.isT n x.val):∃ vs:Array Value,x.conc ρ=.tuple vs∧vs[n]?=some ((Value.T x.val).getD n undef):=by
 cases x with
 | c x=>cases x with
  | v x=>exact zaw h
  | _=>cases h
 | g=>cases h
theorem SV.of_lt (n:Nat) (v:Value):(SV.of v).lt n=true:=by
 unfold SV.of
 split <;> simp [SV.lt,SC.lt]
theorem SV.cells_conc (ρ:Rho) (x:SV):(x.conc ρ).cells=(x.cells.map (·.conc ρ)).toArray∨∃ r,x=.c (.s r):=by
 cases x with
 | c x=>cases x with
  | v x =>
   left
   cases x <;> simp [SV.conc,SC.conc,SV.cells,Value.cells,yj,Function.comp_def]
  | p r o=>left;simp [SV.conc,SC.conc,SV.cells,Value.cells]
  | s r=>exact .inr ⟨r,rfl⟩
 | g cs=>left;simp [SV.conc,SV.cells,Value.cells]
theorem SV.cells_lt {n:Nat} {x:SV} (h:x.lt n=true):∀ y ∈ x.cells,y.lt n=true:=by
 cases x with
 | c x=>cases x with
  | v x=>cases x <;> simp [SV.cells,SC.lt]
  | _=>simpa [SV.cells,SV.lt] using h
 | g cs=>simpa [SV.cells,SV.lt] using h
def getO (st:St) (g:Bool) (x:Operand) (K:SV→Prop):Prop :=
 match x with
 | .const v=>K (.of v)
 | .tmp t=>match look t st.e with
  | some (c,sv)=>(g=true→c=true)∧K sv
  | none=>False
 | .func f=>K (.c (.v (.func (.func f) #[] #[])))
 | .global _=>False
section
variable {P:Program} {W0:Base} {h0:Hp} {N:Nat} {st:St} {g:Bool} {ρ:Rho} {a:Act} {W:World}
theorem zaB {x:Operand} {K:SV→Prop} (b:st.wf=true) (h:getO st g x K) :
  ∃ sv,K sv∧sv.lt st.nx=true∧(g=true→∀ ρ a,FOk N ρ st.e a→a.eval x=sv.conc ρ):=by
 cases x with
 | const v=>exact ⟨_,h,SV.of_lt _ _,fun _ ρ a _=>(SV.conc_of ρ v).symm⟩
 | tmp t =>
  simp only [getO] at h
  split at h
  ·rename_i c sv d
   refine ⟨sv,h.2,?_,fun i ρ a j=>?_⟩
   ·simp only [St.wf,jJ] at b
    exact zan b.1 d
   ·have:=j.2.2 t c sv d
    simp [Act.eval,yL,this,h.1 i]
  ·cases h
 | func f=>exact ⟨_,h,rfl,fun _ ρ a _=>rfl⟩
 | global g=>cases h
def zaC (st:St) (g:Bool):List Operand→(List SV→Prop)→Prop
 | [],K=>K []
 | x :: xs,K=>getO st g x fun v=>zaC st g xs fun vs=>K (v :: vs)
theorem zaD {xs:List Operand}:∀ {K:List SV→Prop},st.wf=true→zaC st g xs K →
  ∃ b,K b∧b.length=xs.length∧(∀ sv ∈ b,sv.lt st.nx=true)∧(g=true→∀ ρ a,FOk N ρ st.e a→xs.map a.eval=b.map (·.conc ρ)):=by
 induction xs with
 | nil=>intro K _ h;exact ⟨[],h,rfl,by simp,fun _ _ _ _=>rfl⟩
 | cons x xs i =>
  intro K c h
  obtain ⟨v,j,k,l⟩:=zaB (N:=N) c h
  obtain ⟨vs,h2,m,n,o⟩:=i c j
  refine ⟨v :: vs,h2,by simp [m],by simpa using ⟨k,n⟩,fun d ρ a f=>?_⟩
  simp [l d ρ a f,o d ρ a f]
end
def zaE (op:BinOp) (k:IntKind) (a b:Int):Int :=
 match op with
 | .and=>k.wrap (BitVec.ofInt k.bits a &&& BitVec.ofInt k.bits b).toNat
 | .or=>k.wrap (BitVec.ofInt k.bits a ||| BitVec.ofInt k.bits b).toNat
 | .xor=>k.wrap (BitVec.ofInt k.bits a ^^^ BitVec.ofInt k.bits b).toNat
 | _=>k.wrap (BitVec.ofInt k.bits a &&& ~~~(BitVec.ofInt k.bits b)).toNat
def zaF (g:Bool) (op:BinOp) (k:IntKind) (a b:Int) (K:Value→Prop):Prop :=
 match op with
 | .add=>K (.int k (k.wrap (a+b)))
 | .sub=>K (.int k (k.wrap (a - b)))
 | .mul=>K (.int k (k.wrap (a * b)))
 | .quo=>(g=true→b ≠ 0)∧K (.int k (k.wrap (a.tdiv b)))
 | .rem=>(g=true→b ≠ 0)∧K (.int k (a.tmod b))
 | .and|.or|.xor|.andNot=>K (.int k (zaE op k a b))
 | .eql=>K (.bool (a == b))
 | .neq=>K (.bool (a != b))
 | .lss=>K (.bool (decide (a < b)))
 | .leq=>K (.bool (decide (a≤b)))
 | .gtr=>K (.bool (decide (b < a)))
 | .geq=>K (.bool (decide (b≤a)))
 | _=>False
theorem zaG {P:Program} {g:Bool} {op:BinOp} {k:IntKind} {a b:Int} {K:Value→Prop} (h:zaF g op k a b K) :
  ∃ v,K v∧(∀ x,v ≠ .agg x)∧(g=true→∀ t W,(binOp op t (.int k a) (.int k b)).run P W=.ok v W):=by
 cases op <;> simp only [zaF] at h <;> first
  | exact ⟨_,h,by simp,fun _ t W=>by simp [binOp,Op.intArith,Op.intCmp,Op.intBits,zaE]⟩
  | exact ⟨_,h.2,by simp,fun c t W=>by simp [binOp,Op.intDiv,h.1 c]⟩
  | exact h.elim
def veq:Value→Value→Bool
 | .int _ a,.int _ b=>a == b
 | .bool a,.bool b=>a == b
 | .string a,.string b=>a.toList == b.toList
 | _,_=>false
def veqs:List Value→List Value→Bool
 | [],[]=>true
 | a :: as,b :: bs=>veq a b && veqs as bs
 | _,_=>false
def zaH (P:Program) (t:TypeId) (v:Value):Prop :=
 match P.underlying t with
 | some (.int k)=>Value.isI k v
 | some .bool=>Value.isB v
 | some .string=>Value.isS v
 | _=>False
def zaI (P:Program):Nat→List Field→List Value→Prop
 | _,[],[]=>True
 | i,f :: fs,v :: vs=>f.offset=i∧f.name ≠ "_"∧zaH P f.type v∧zaI P (i+1) fs vs
 | _,_,_=>False
def zaJ:BinOp→Bool
 | .shl=>true
 | .shr=>true
 | _=>false
def zaK (op:BinOp) (k:IntKind) (a b:Int) (K:Value→Prop):Prop :=
 match op with
 | .shl=>K (.int k (k.wrap (a * 2 ^ (min b.toNat k.bits))))
 | .shr=>K (.int k (a.fdiv (2 ^ (min b.toNat k.bits))))
 | _=>False
def zaL (op:BinOp) (a b:Bool) (K:Value→Prop):Prop :=
 match op with
 | .eql=>K (.bool (a == b))
 | .neq=>K (.bool (!(a == b)))
 | _=>False
def zaM (g:Bool) (op:BinOp) (a b:ByteArray) (K:Value→Prop):Prop :=
 match op with
 | .eql=>K (.bool (a.toList == b.toList))
 | .neq=>K (.bool (!(a.toList == b.toList)))
 | .add=>(g=true→a.size+b.size≤9223372036854775807)∧K (.string (a ++ b))
 | _=>False
def zaN (op:BinOp) (a b:List Value) (K:Value→Prop):Prop :=
 match op with
 | .eql=>K (.bool (veqs a b))
 | .neq=>K (.bool (!veqs a b))
 | _=>False
def zaO (P:Program) (g:Bool) (op:BinOp) (t:TypeId) (x y:SV) (K:Value→Prop):TypeDesc→Prop
 | .int k=>if zaJ op=true then (g=true→Value.isI k x.val∧(∃ k',Value.isI k' y.val)∧0≤Value.I y.val)∧zaK op k (Value.I x.val) (Value.I y.val) K
  else (g=true→Value.isI k x.val∧Value.isI k y.val)∧zaF g op k (Value.I x.val) (Value.I y.val) K
 | .bool=>(g=true→Value.isB x.val∧Value.isB y.val)∧zaL op (Value.B x.val) (Value.B y.val) K
 | .string=>(g=true→Value.isS x.val∧Value.isS y.val)∧zaM g op (Value.S x.val) (Value.S y.val) K
 | .struct fs=>P.stoodInHeld t=false∧P.eqGuardType P.depth t=false∧fs.toList.length ≠ 1 ∧
   (g=true→zaI P 0 fs.toList (x.cells.map (·.val))∧zaI P 0 fs.toList (y.cells.map (·.val)))∧zaN op (x.cells.map (·.val)) (y.cells.map (·.val)) K
 | _=>False
def vbin (P:Program) (g:Bool) (op:BinOp) (t:TypeId) (x y:SV) (K:Value→Prop):Prop :=
 zaO P g op t x y K ((P.underlying t).getD .invalid)
theorem zaP {P:Program} {W:World} {d:Nat} {t:TypeId} {a b:Value} (f:zaH P t a) (e:zaH P t b) :
  (Op.equalIn (d+1) t a b).run P W=.ok (veq a b) W:=by
 unfold zaH at f e
 split at f
 ·rename_i k c
  simp only [c] at e
  rw [zar f,zar e,run_equalIn_int (h:=c)];rfl
 ·rename_i c
  simp only [c] at e
  rw [zas f,zas e,run_equalIn_bool' (h:=c)];rfl
 ·rename_i c
  simp only [c] at e
  rw [zat f,zat e,run_equalIn_string (h:=c)];rfl
 ·cases f
theorem zaQ {P:Program} {W:World} {t:TypeId} {v:Value} {cs:Array Value} {o:Nat} (h:zaH P t v) (b:cs[o]?=some v) :
  (part t cs o).run P W=.ok v W:=by
 unfold zaH at h
 have a:(isAgg t).run P W=.ok false W:=by
  split at h <;> rename_i c <;> first|cases h|simp [isAgg,run_underlying c]
 simp [part,a,b]
theorem zaR {P:Program} {W:World} {d:Nat}:∀ (a:List Field) (i:Nat) (xs b:List Value) (X Y:Array Value),zaI P i a xs→zaI P i a b →
  (∀ j,xs[j]?=X[i+j]?)→(∀ j,b[j]?=Y[i+j]?)→(Op.eqFields (d+1) X Y a).run P W=.ok (veqs xs b) W
 | [],i,[],[],X,Y,_,_,_,_=>by simp [Op.eqFields,veqs]
 | [],i,_ :: _,_,X,Y,h,_,_,_=>by simp [zaI] at h
 | [],i,[],_ :: _,X,Y,_,h,_,_=>by simp [zaI] at h
 | f :: a,i,[],_,X,Y,h,_,_,_=>by simp [zaI] at h
 | f :: a,i,_ :: _,[],X,Y,_,h,_,_=>by simp [zaI] at h
 | f :: a,i,x :: xs,y :: b,X,Y,m,n,c,e=>by
  obtain ⟨g,p,k,q⟩:=m
  obtain ⟨u,w,l,r2⟩:=n
  have r:=zaQ (W:=W) (cs:=X) (o:=f.offset) k (by rw [g];have:=c 0;simpa using this.symm)
  have s:=zaQ (W:=W) (cs:=Y) (o:=f.offset) l (by rw [g];have:=e 0;simpa using this.symm)
  have t:=zaR (W:=W) (d:=d) a (i+1) xs b X Y q r2 (fun j=>by have:=c (j+1);simpa [Nat.add_assoc,uV 1 j] using this) (fun j=>by have:=e (j+1);simpa [Nat.add_assoc,uV 1 j] using this)
  simp only [Op.eqFields,p,ne_eq,not_false_eq_true,if_true,Sem.run_bind,r,s,Result.andThen_ok,zaP k l,veqs]
  cases z:veq x y
  ·simp
  ·simpa using t
theorem zaS {P:Program} {ρ:Rho}:∀ (a:List Field) (i:Nat) (cs:List SC),zaI P i a (cs.map (·.val))→cs.map (·.conc ρ)=cs.map (·.val)
 | [],_,[],_=>rfl
 | [],_,_ :: _,h=>by simp [zaI] at h
 | _ :: _,_,[],h=>by simp [zaI] at h
 | f :: a,i,c :: cs,h=>by
  simp only [wx,zaI] at h
  have b:=zaS (ρ:=ρ) a (i+1) cs h.2.2.2
  simp only [wx,b]
  congr 1
  cases c with
  | v x=>rfl
  | _ =>
   have:=h.2.2.1
   simp [zaH,SC.val,undef] at this
   split at this <;> simp_all [Value.isI,Value.isB,Value.isS]
theorem zaT {P:Program} {ρ:Rho} {a:List Field} {x:SV} (h:zaI P 0 a (x.cells.map (·.val))) (d:∀ r,x ≠ .c (.s r)) (b:a.length ≠ 1∨(∃ cs,x=.g cs)) :
  x.conc ρ=.agg (x.cells.map (·.val)).toArray:=by
 cases x with
 | g cs =>
  simp only [SV.cells] at h ⊢
  simp only [SV.conc,zaS (ρ:=ρ) a 0 cs h]
 | c x =>
  rcases b with b|⟨cs,e⟩
  ·cases x with
   | s r=>exact (d r rfl).elim
   | p r o =>
    exfalso
    match a,h with
    | [],h=>simp [SV.cells,zaI] at h
    | [f],h=>exact b rfl
    | f :: g :: a,h=>simp [SV.cells,zaI] at h
   | v x =>
    cases x with
    | agg cs=>simp [SV.cells,SV.conc,SC.conc,SC.val,yj,Function.comp_def]
    | _ =>
     exfalso
     match a,h with
     | [],h=>simp [SV.cells,zaI] at h
     | [f],h=>exact b rfl
     | f :: g :: a,h=>simp [SV.cells,zaI] at h
  ·cases e
theorem zaU {P:Program} {W:World} {op:BinOp} {t:TypeId} {x y:Operand} {a b:Value} (h:(∀ xs,a ≠ .agg xs)∧a ≠ .nilIface∨P.eqGuardType P.depth t=false∧a ≠ .nilIface) :
  (eqGuard op t x y a b).run P W=.ok () W:=by
 unfold eqGuard
 split <;> simp only [wj,wq,qW,if_false,if_true]
 ·split
  ·rcases h with h|h <;> exact (h.2 rfl).elim
  ·rcases h with h|h
   ·exact (h.1 _ rfl).elim
   ·simp [Sem.run_bind,run_program,h.1]
  ·rfl
 ·split
  ·rcases h with h|h <;> exact (h.2 rfl).elim
  ·rcases h with h|h
   ·exact (h.1 _ rfl).elim
   ·simp [Sem.run_bind,run_program,h.1]
  ·rfl
 ·rfl
theorem zaV {P:Program} {g:Bool} {op:BinOp} {t:TypeId} {x y:SV} {K:Value→Prop} (h:vbin P g op t x y K) :
  ∃ v,K v∧(∀ z,v ≠ .agg z)∧(g=true→∀ ρ W e i,(do eqGuard op t e i (x.conc ρ) (y.conc ρ);binOp op t (x.conc ρ) (y.conc ρ):Sem Value).run P W=.ok v W):=by
 unfold vbin at h
 cases o:P.underlying t with
 | none=>rw [o] at h;exact h.elim
 | some d =>
 rw [o] at h
 simp only [jc] at h
 cases d <;> simp only [zaO] at h <;> first|exact h.elim|skip
 case bool =>
  have D:∀ a b W,(Op.equal t (.bool a) (.bool b)).run P W=.ok (a == b) W:=fun a b W=>run_equalIn_bool' W 9999 t a b o
  cases op <;> simp only [zaL] at h <;> first|exact h.2.elim|skip
  all_goals
   refine ⟨_,h.2,by simp,fun c ρ W e i=>?_⟩
   rw [zay (ρ:=ρ) (h.1 c).1,zay (ρ:=ρ) (h.1 c).2]
   simp [Sem.run_bind,zaU (P:=P) (W:=W) (t:=t) (x:=e) (y:=i) (a:=.bool (Value.B x.val)) (b:=.bool (Value.B y.val)) (.inl ⟨by simp,by simp⟩),binOp,D]
 case string =>
  cases op <;> simp only [zaM] at h <;> first|exact h.2.elim|skip
  case add =>
   refine ⟨_,h.2.2,by simp,fun c ρ W e i=>?_⟩
   have X:=h.2.1 c
   rw [zaz (ρ:=ρ) (h.1 c).1,zaz (ρ:=ρ) (h.1 c).2]
   have J:¬ (((Value.S x.val).size+(Value.S y.val).size:Nat):Int) > IntKind.i64.max:=by
    have:IntKind.i64.max=9223372036854775807:=by decide
    rw [this];omega
   simp only [Sem.run_bind,zaU (P:=P) (W:=W) (t:=t) (x:=e) (y:=i) (a:=.string (Value.S x.val)) (b:=.string (Value.S y.val)) (.inl ⟨by simp,by simp⟩),binOp,Op.stringOp,Result.andThen_ok,J,if_false,Sem.run_pure]
  all_goals
   refine ⟨_,h.2,by simp,fun c ρ W e i=>?_⟩
   rw [zaz (ρ:=ρ) (h.1 c).1,zaz (ρ:=ρ) (h.1 c).2]
   simp [zaU (P:=P) (W:=W) (t:=t) (x:=e) (y:=i) (a:=.string (Value.S x.val)) (b:=.string (Value.S y.val)) (.inl ⟨by simp,by simp⟩),binOp,Op.stringOp]
 case int k =>
  by_cases m:zaJ op=true
  ·rw [if_pos m] at h
   have G:∀ v,(∀ p W,0≤Value.I y.val→(Op.shift op k (Value.I x.val) p (Value.I y.val)).run P W=.ok v W)→g=true→∀ ρ W e i,
     (do eqGuard op t e i (x.conc ρ) (y.conc ρ);binOp op t (x.conc ρ) (y.conc ρ):Sem Value).run P W=.ok v W:=by
    intro v F c ρ W e i
    obtain ⟨M,⟨p,N⟩,O⟩:=h.1 c
    rw [zax (ρ:=ρ) M,zax (ρ:=ρ) N]
    cases op <;> simp only [zaJ] at m <;> first|cases m|skip
    all_goals simp [Sem.run_bind,zaU (P:=P) (W:=W) (t:=t) (x:=e) (y:=i) (a:=.int k (Value.I x.val)) (b:=.int p (Value.I y.val)) (.inl ⟨by simp,by simp⟩),binOp,F p W O]
   cases op <;> simp only [zaJ] at m <;> first|cases m|skip
   all_goals
    simp only [zaK] at h
    exact ⟨_,h.2,by simp,G _ fun p W h0=>by simp [Op.shift,Int.not_lt.2 h0]⟩
  ·rw [if_neg m] at h
   obtain ⟨v,q,Q,F⟩:=zaG (P:=P) h.2
   refine ⟨v,q,Q,fun c ρ W e i=>?_⟩
   rw [zax (ρ:=ρ) (h.1 c).1,zax (ρ:=ρ) (h.1 c).2]
   simp [Sem.run_bind,zaU (P:=P) (W:=W) (op:=op) (t:=t) (x:=e) (y:=i) (a:=.int k (Value.I x.val)) (b:=.int k (Value.I y.val)) (.inl ⟨by simp,by simp⟩),F c]
 case struct s =>
  obtain ⟨R,H,l,u,q⟩:=h
  have w:P.fieldsOf t=s:=by simp [Program.fieldsOf,o]
  have conv:∀ z:SV,zaI P 0 s.toList (z.cells.map (·.val))→∀ ρ,z.conc ρ=.agg (z.cells.map (·.val)).toArray:=by
   intro z n ρ
   refine zaT n ?_ (.inl l)
   rintro r rfl
   match s,l,n with
   | ⟨[]⟩,_,n=>simp [SV.cells,zaI] at n
   | ⟨[f]⟩,l,_=>exact l rfl
   | ⟨f :: g :: s⟩,_,n=>simp [SV.cells,zaI] at n
  have D:g=true→∀ W,(Op.equal t (.agg (x.cells.map (·.val)).toArray) (.agg (y.cells.map (·.val)).toArray)).run P W=.ok (veqs (x.cells.map (·.val)) (y.cells.map (·.val))) W:=by
   intro c W
   show (Op.equalIn (9999+1) t _ _).run P W=_
   rw [run_equalIn_struct W 9999 t _ _ (by rw [w];exact o) R,w]
   exact zaR (d:=9998) s.toList 0 _ _ _ _ (u c).1 (u c).2 (fun j=>by simp) (fun j=>by simp)
  cases op <;> simp only [zaN] at q <;> first|exact q.elim|skip
  all_goals
   refine ⟨_,q,by simp,fun c ρ W e i=>?_⟩
   rw [conv x (u c).1 ρ,conv y (u c).2 ρ]
   simp [Sem.run_bind,zaU (P:=P) (W:=W) (t:=t) (x:=e) (y:=i) (a:=.agg (x.cells.map (·.val)).toArray) (b:=.agg (y.cells.map (·.val)).toArray) (.inr ⟨H,by simp⟩),binOp,D c]
open Go Go.RowKit
def zaW (P:Program) (t:TypeId) (f:Nat):Option (Nat × TypeId) :=
 match P.underlying t with
 | some (.struct fs)=>(fs[f]?).map fun x=>(x.offset,x.type)
 | _=>none
def zaX (P:Program) (t:TypeId):Option TypeId:=match P.underlying t with|some (.slice e)=>some e|_=>none
def arrT (P:Program) (t:TypeId):Option (Nat × TypeId):=match P.underlying t with|some (.array n e)=>some (n,e)|_=>none
def strT (P:Program) (t:TypeId):Bool:=match P.underlying t with|some .string=>true|_=>false
def intT (P:Program) (t:TypeId):Option IntKind:=match P.underlying t with|some (.int k)=>some k|_=>none
theorem zaY (n:Nat) (xs:List Value):(SV.g (xs.map .v)).lt n=true:=by
 simp only [SV.lt,List.all_map,wY,Function.comp_def]
 exact fun _ _=>rfl
def RunsTo (P:Program) (W0:Base) (h0:Hp) (st:St) (S:Rho→Sem Value) (v:Rho→Value):Prop :=
 ∀ ρ W,WOk W0 h0 ρ st.p st.h W→(S ρ).run P W=.ok (v ρ) W
section
variable {P:Program} {W0:Base} {h0:Hp} {st:St} {g:Bool}
theorem RunsTo.mk {S:Rho→Sem Value} {v:Rho→Value} (h:∀ ρ W,WOk W0 h0 ρ st.p st.h W→(S ρ).run P W=.ok (v ρ) W):RunsTo P W0 h0 st S v:=h
theorem zaZ {t:TypeId} {W:World} (b:(P.underlying t).isSome=true):(isAgg t).run P W=.ok (aggT P t) W:=by
 cases a:P.underlying t with
 | none=>rw [a] at b;cases b
 | some d=>cases d <;> simp [isAgg,run_underlying a,aggT,a]
theorem za0 {t:TypeId} (a:(P.underlying t).isSome=true):∃ i,P.info? t=some i:=by
 unfold Program.underlying at a
 cases h:P.info? t with
 | none=>rw [h] at a;cases a
 | some i=>exact ⟨i,rfl⟩
theorem za1 {t:TypeId} {W:World} (a:(P.underlying t).isSome=true):(sizeOf t).run P W=.ok (szT P t) W:=by
 obtain ⟨i,b⟩:=za0 a
 simp [sizeOf,typeInfo,b,szT,Program.cellsOf]
def cutC (o n:Nat) (cs:List SC):List SC:=(cs.drop o).take n
def hasT (P:Program) (t:TypeId):Bool:=(P.underlying t).isSome
def za2 (P:Program) (st:St) (g:Bool) (t:TypeId) (x:SV) (K:SV→Prop):Prop :=
 hasT P t=true ∧
 match x with
 | .c (.p r o)=>match look r st.p with
  | some (.box _ cs)=>if aggT P t=true then (g=true→o+szT P t≤cs.length)∧K (.g (cutC o (szT P t) cs))
   else (g=true→o < cs.length)∧K (.c (cs.getD o (.v undef)))
  | some (.row _ _ _ xs)=>if aggT P t=true then (g=true→o+szT P t≤xs.length)∧K (.g (((xs.drop o).take (szT P t)).map .v))
   else (g=true→o < xs.length)∧K (.c (.v (xs.getD o undef)))
  | none=>False
 | .c (.v y)=>if aggT P t=true then (g=true→Value.isP y∧(st.h.lds (Value.P y) (szT P t)).isSome=true)∧K (.g ((st.h.ldD (Value.P y) (szT P t)).map .v))
   else (g=true→Value.isP y∧(st.h.lds (Value.P y) 1).isSome=true)∧K (.c (.v ((st.h.ldD (Value.P y) 1).getD 0 undef)))
 | _=>False
theorem za3 {t:TypeId} {W:World} {a:Addr} {cs:List Value} (d:hasT P t=true)
  (h:∀ j v,cs[j]?=some v→W.cell? (a.add j)=some v) (b:cs.length=if aggT P t=true then szT P t else 1) :
  (loadVar t a).run P W=.ok (if aggT P t=true then .agg cs.toArray else cs.getD 0 undef) W:=by
 by_cases c:aggT P t=true
 ·simp only [c,if_true] at b ⊢
  have e:=run_loadCells_list (P:=P) W a cs h
  rw [b] at e
  simp [loadVar,zaZ d,c,za1 d,e]
 ·simp only [c,if_false,qW] at b ⊢
  match cs,b with
  | [v],_ =>
   have:=h 0 v rfl
   simp only [Addr.add,if_true] at this
   simp [loadVar,zaZ d,c,load,Sem.run,this]
theorem za4 (b o j:Nat):(⟨b,o,none⟩:Addr).add j=⟨b,o+j,none⟩:=by
 unfold Addr.add
 split
 ·rename_i h;subst h;rfl
 ·rfl
theorem za5 {ρ:Rho} {W:World} {r:Nat} {ty:TypeId} {cs:List SC} {a:Nat} (h:PB.ok a ρ r W (.box ty cs)) :
  ∀ j c,cs[j]?=some c→W.cell? ⟨blk (ρ r),j,none⟩=some (c.conc ρ):=by
 intro j c b
 obtain ⟨g,d,_,e⟩:=h
 rw [d]
 simp only [blk]
 rw [cell_of_row W g j _ ty (0,0) e]
 simp [b]
theorem za6 {ρ:Rho} {W:World} {r:Nat} {e:TypeId} {c n:Nat} {xs:List Value} {a:Nat} (h:PB.ok a ρ r W (.row e c n xs)) :
  ∀ j v,xs[j]?=some v→W.cell? ⟨blk (ρ r),j,none⟩=some v:=by
 intro j v d
 have b:W.ownsRow a e c (ρ r) n xs:=h
 rcases b.2 with ⟨_,h0⟩|⟨g,cap,cur,f,_⟩
 ·have:=b.1
  subst h0
  simp at this
  subst this
  simp at d
 ·have:=b.cells (g:=g) (by rw [f];rfl) j v d
  rw [f]
  simp only [blk]
  rwa [za4,jb] at this
theorem za7 {t:TypeId} {x:SV} {K:SV→Prop} (F:st.wf=true) (h:za2 P st g t x K) :
  ∃ sv,K sv∧sv.lt st.nx=true∧(g=true→RunsTo P W0 h0 st (fun ρ=>Instr.loadAt t (x.conc ρ)) (fun ρ=>sv.conc ρ)):=by
 obtain ⟨u,h⟩:=h
 have G:pbLt st.nx st.p=true:=by simp only [St.wf,jJ] at F;exact F.2
 split at h
 ·rename_i r o
  split at h
  ·rename_i ty cs k
   have w:cs.all (·.lt st.nx)=true:=(zao G k).2
   simp only [wY] at w
   split at h
   ·rename_i i
    refine ⟨_,h.2,?_,fun d ρ W m=>?_⟩
    ·simp only [SV.lt,wY,cutC]
     exact fun y N=>w y (yA (yB N))
    ·have D:=m.priv r _ k
     have q:=za5 D
     have f:=h.1 d
     have:=za3 (P:=P) (t:=t) (W:=W) (a:=⟨blk (ρ r),o,none⟩) (cs:=(cutC o (szT P t) cs).map (·.conc ρ)) u (fun j v b=>by
      rw [za4]
      simp only [cutC,yC,Option.map_eq_some_iff] at b
      obtain ⟨c,s,rfl⟩:=b
      refine q _ _ ?_
      rw [yF] at s
      split at s
      ·rwa [uF] at s
      ·cases s) (by simp [i,cutC];omega)
     simp only [Instr.loadAt,zak,zal,zah,zai,zaj,Instr.sureAddr]
     simpa [i] using this
   ·rename_i i
    refine ⟨_,h.2,?_,fun d ρ W m=>?_⟩
    ·show SC.lt _ _=true
     by_cases H:o < cs.length
     ·rw [ja,qX H];exact w _ (qd H)
     ·rw [ja,uE (by omega)];rfl
    ·have D:=m.priv r _ k
     have q:=za5 D
     have f:=h.1 d
     have:=za3 (P:=P) (t:=t) (W:=W) (a:=⟨blk (ρ r),o,none⟩) (cs:=[(cs.getD o (.v undef)).conc ρ]) u (fun j v b=>by
      rw [za4]
      match j,b with
      | 0,b =>
       simp only [Jw,Option.some.injEq] at b
       subst b
       exact q _ _ (by rw [ja,qJ,qX f];rfl)
      | j+1,b=>simp at b) (by simp [i])
     simp only [Instr.loadAt,zak,zal,zah,zai,zaj,Instr.sureAddr]
     simpa [i] using this
  ·rename_i e R n xs k
   split at h
   ·rename_i i
    refine ⟨_,h.2,zaY _ _,fun d ρ W m=>?_⟩
    have q:=za6 (m.priv r _ k)
    have f:=h.1 d
    have:=za3 (P:=P) (t:=t) (W:=W) (a:=⟨blk (ρ r),o,none⟩) (cs:=(xs.drop o).take (szT P t)) u (fun j v b=>by
     rw [za4]
     refine q _ _ ?_
     rw [yF] at b
     split at b
     ·rwa [uF] at b
     ·cases b) (by simp [i];omega)
    simp only [Instr.loadAt,zak,zal,zah,zai,zaj,Instr.sureAddr,yj,Function.comp_def,List.map_id']
    simpa [i] using this
   ·rename_i i
    refine ⟨_,h.2,rfl,fun d ρ W m=>?_⟩
    have q:=za6 (m.priv r _ k)
    have f:=h.1 d
    have:=za3 (P:=P) (t:=t) (W:=W) (a:=⟨blk (ρ r),o,none⟩) (cs:=[xs.getD o undef]) u (fun j v b=>by
     rw [za4]
     match j,b with
     | 0,b =>
      simp only [Jw,Option.some.injEq] at b
      subst b
      exact q _ _ (by rw [ja,qJ,qX f];rfl)
     | j+1,b=>simp at b) (by simp [i])
    simp only [Instr.loadAt,zak,zal,zah,zai,zaj,Instr.sureAddr]
    simpa [i] using this
  ·cases h
 ·rename_i y
  have z:∀ n,(g=true→Value.isP y∧(st.h.lds (Value.P y) n).isSome=true)→g=true→∃ a,y=.pointer (some a)∧∃ l,st.h.lds (Value.P y) n=some l∧l.length=n∧∀ ρ W,WOk W0 h0 ρ st.p st.h W→∀ j v,l[j]?=some v→W.cell? (a.add j)=some v:=by
   intro n O d
   obtain ⟨Q,h2⟩:=O d
   obtain ⟨a,rfl,J⟩:=zau Q
   rw [J] at h2
   obtain ⟨l,k⟩:=Option.isSome_iff_exists.1 h2
   have M:=zac (show st.h.cellsAt a 0 n=some l from k)
   exact ⟨a,rfl,l,by rw [J];exact k,M.1,fun ρ W m j v b=>zaa m.sees (by simpa using M.2 j v b)⟩
  split at h
  ·rename_i i
   refine ⟨_,h.2,zaY _ _,fun d ρ W m=>?_⟩
   obtain ⟨a,rfl,l,k,f,q⟩:=z _ h.1 d
   have:=za3 (P:=P) (t:=t) (W:=W) (a:=a) (cs:=l) u (q ρ W m) (by simp [i,f])
   simp only [Instr.loadAt,zak,zal,zah,zai,zaj,Instr.sureAddr,yj,Function.comp_def,List.map_id',zag k]
   simpa [i] using this
  ·rename_i i
   refine ⟨_,h.2,rfl,fun d ρ W m=>?_⟩
   obtain ⟨a,rfl,l,k,f,q⟩:=z _ h.1 d
   have:=za3 (P:=P) (t:=t) (W:=W) (a:=a) (cs:=l) u (q ρ W m) (by simp [i,f])
   simp only [Instr.loadAt,zak,zal,zah,zai,zaj,Instr.sureAddr,zag k]
   simpa [i] using this
 ·cases h
def za8 (P:Program) (g:Bool) (t:TypeId) (x:SV) (f:Nat) (K:SV→Prop):Prop :=
 match zaW P t f with
 | none=>False
 | some (off,ft)=>hasT P ft=true∧szT P ft ≠ 0 ∧
  match x with
  | .c (.p r o)=>K (.c (.p r (o+off)))
  | .c (.v y)=>(g=true→Value.isP y)∧K (.c (.v (.pointer ((Value.P y).map (·.add off)))))
  | _=>False
theorem za9 {t:TypeId} {f off:Nat} {c:TypeId} (h:zaW P t f=some (off,c)):∃ b a,P.underlying t=some (.struct b)∧b[f]?=some a∧a.offset=off∧a.type=c:=by
 unfold zaW at h
 split at h
 ·rename_i b d
  obtain ⟨a,e,h2⟩:=Option.map_eq_some_iff.1 h
  simp only [Prod.mk.injEq] at h2
  exact ⟨b,a,d,e,h2.1,h2.2⟩
 ·cases h
theorem zba {t:TypeId} {x:SV} {f:Nat} {K:SV→Prop} (d:x.lt st.nx=true) (h:za8 P g t x f K) :
  ∃ sv,K sv∧sv.lt st.nx=true∧(g=true→RunsTo P W0 h0 st (fun ρ=>Instr.fieldAt t (x.conc ρ) f) (fun ρ=>sv.conc ρ)):=by
 unfold za8 at h
 split at h
 ·cases h
 ·rename_i off p e
  obtain ⟨i,j,h⟩:=h
  obtain ⟨q,k,l,b,rfl,rfl⟩:=za9 e
  have run:∀ (a:Addr) (W:World),(Instr.fieldAt t (.pointer (some a)) f).run P W=.ok (.pointer (some (a.add k.offset))) W:=by
   intro a W
   simp [Instr.fieldAt,run_underlying l,b,Instr.sureAddr,fieldPlace,za1 i,j]
  split at h
  ·rename_i r o
   refine ⟨_,h,d,fun _ ρ W m=>?_⟩
   simp only [zak,zal,zah,zai,zaj,run,za4]
  ·rename_i y
   refine ⟨_,h.2,rfl,fun c ρ W m=>?_⟩
   obtain ⟨a,rfl,n⟩:=zau (h.1 c)
   simp only [zak,zal,zah,zai,zaj,run,n,qq]
  ·cases h
def zbb (P:Program) (st:St) (g:Bool) (t:TypeId) (x i:SV) (K:SV→Prop):Prop :=
 (g=true→∃ k,Value.isI k i.val) ∧
 match zaX P t with
 | some e=>hasT P e=true ∧
  match x with
  | .c (.s r)=>match look r st.p with
   | some (.row _ _ n _)=>(g=true→0≤Value.I i.val∧Value.I i.val < n)∧K (.c (.p r ((Value.I i.val).toNat * szT P e)))
   | _=>False
  | .c (.v y)=>(g=true→Value.isA y∧0≤Value.I i.val∧Value.I i.val < Value.L y∧(Value.A y).isSome=true)∧K (.c (.v (.pointer ((Value.A y).map (·.add ((Value.I i.val).toNat * szT P e))))))
  | _=>False
 | none=>match arrT P t with
  | some (n,e)=>hasT P e=true ∧
   match x with
   | .c (.p r o)=>(g=true→0≤Value.I i.val∧Value.I i.val < n)∧K (.c (.p r (o+(Value.I i.val).toNat * szT P e)))
   | .c (.v y)=>(g=true→Value.isP y∧0≤Value.I i.val∧Value.I i.val < n)∧K (.c (.v (.pointer ((Value.P y).map (·.add ((Value.I i.val).toNat * szT P e))))))
   | _=>False
  | none=>False
theorem zbc {t e:TypeId} (h:zaX P t=some e):P.underlying t=some (.slice e):=by
 unfold zaX at h
 split at h
 ·rename_i a;simp only [Option.some.injEq] at h;rw [a,h]
 ·cases h
theorem zbd {t e:TypeId} {n:Nat} (h:arrT P t=some (n,e)):P.underlying t=some (.array n e):=by
 unfold arrT at h
 split at h
 ·rename_i a;simp only [Option.some.injEq,Prod.mk.injEq] at h;rw [a,h.1,h.2]
 ·cases h
theorem zbe {t:TypeId} {x i:SV} {K:SV→Prop} (D:x.lt st.nx=true) (h:zbb P st g t x i K) :
  ∃ sv,K sv∧sv.lt st.nx=true∧(g=true→RunsTo P W0 h0 st (fun ρ=>Instr.indexAt t (x.conc ρ) (i.conc ρ)) (fun ρ=>sv.conc ρ)):=by
 obtain ⟨l,h⟩:=h
 split at h
 ·rename_i e q
  have s:=zbc q
  obtain ⟨u,h⟩:=h
  have run:∀ (a:Addr) (k:IntKind) (n:Nat) (cap:Nat) (c:Int) (W:World),0≤c→c < n→(Instr.indexAt t (.slice (some a) n cap) (.int k c)).run P W=.ok (.pointer (some (a.add (c.toNat * szT P e)))) W:=by
   intro a k n cap c W w h2
   simp [Instr.indexAt,asIntOf,run_underlying s,w,h2,za1 u]
  split at h
  ·rename_i r
   split at h
   ·rename_i G H n xs J
    refine ⟨_,h.2,D,fun b ρ W m=>?_⟩
    obtain ⟨k,d⟩:=l b
    obtain ⟨f,j⟩:=h.1 b
    have M:W.ownsRow 0 G H (ρ r) n xs:=m.priv r _ J
    rcases M.2 with ⟨_,h0⟩|⟨Q,cap,cur,N,_⟩
    ·omega
    ·simp only [zak,zal,zah,zai,zaj]
     rw [show i.conc ρ=.int k (Value.I i.val) from zax d,N,run _ _ _ _ _ _ f j]
     simp only [blk,za4,jb]
   ·cases h
  ·rename_i y
   refine ⟨_,h.2,rfl,fun b ρ W m=>?_⟩
   obtain ⟨k,d⟩:=l b
   obtain ⟨z,f,j,O⟩:=h.1 b
   obtain ⟨a,p⟩:=Option.isSome_iff_exists.1 O
   have F:=zav z
   rw [p] at F
   simp only [zak,zal,zah,zai,zaj]
   rw [show i.conc ρ=.int k (Value.I i.val) from zax d,p]
   conv=>lhs;rw [F]
   rw [run _ _ _ _ _ _ f j]
   rfl
  ·cases h
 ·split at h
  ·rename_i n e q
   have s:=zbd q
   obtain ⟨u,h⟩:=h
   have run:∀ (a:Addr) (k:IntKind) (c:Int) (W:World),0≤c→c < n→(Instr.indexAt t (.pointer (some a)) (.int k c)).run P W=.ok (.pointer (some (a.add (c.toNat * szT P e)))) W:=by
    intro a k c W w h2
    simp [Instr.indexAt,asIntOf,run_underlying s,Instr.sureAddr,w,h2,za1 u]
   split at h
   ·rename_i r o
    refine ⟨_,h.2,D,fun b ρ W m=>?_⟩
    obtain ⟨k,d⟩:=l b
    obtain ⟨f,j⟩:=h.1 b
    simp only [zak,zai]
    rw [show i.conc ρ=.int k (Value.I i.val) from zax d,run _ _ _ _ f j,za4]
   ·rename_i y
    refine ⟨_,h.2,rfl,fun b ρ W m=>?_⟩
    obtain ⟨k,d⟩:=l b
    obtain ⟨z,f,j⟩:=h.1 b
    obtain ⟨a,rfl,p⟩:=zau z
    simp only [zak,zal,zah,zai,zaj]
    rw [show i.conc ρ=.int k (Value.I i.val) from zax d,run _ _ _ _ f j,p]
    rfl
   ·cases h
  ·cases h
end
open Go Go.RowKit
section
variable {P:Program} {W0:Base} {h0:Hp} {st:St} {g:Bool}
def isG:SV→Prop
 | .g _=>True
 | .c (.v (.agg _))=>True
 | _=>False
theorem zbf {x:SV} (h:isG x) (ρ:Rho):x.conc ρ=.agg (x.cells.map (·.conc ρ)).toArray:=by
 cases x with
 | g cs=>rfl
 | c x=>cases x with
  | v x=>cases x <;> simp_all [isG,SV.cells,yj,Function.comp_def]
  | _=>cases h
def zbg (P:Program) (g:Bool) (t:TypeId) (x:SV) (f:Nat) (K:SV→Prop):Prop :=
 match zaW P t f with
 | none=>False
 | some (off,ft)=>hasT P ft=true∧(g=true→isG x) ∧
  if aggT P ft=true then K (.g (cutC off (szT P ft) x.cells))
  else (g=true→off < x.cells.length)∧K (.c (x.cells.getD off (.v undef)))
theorem zbh {t:TypeId} {W:World} {cs:List SC} {ρ:Rho} {o:Nat} (a:hasT P t=true) (b:aggT P t=true∨o < cs.length) :
  (part t (cs.map (·.conc ρ)).toArray o).run P W=.ok (if aggT P t=true then .agg ((cutC o (szT P t) cs).map (·.conc ρ)).toArray else (cs.getD o (.v undef)).conc ρ) W:=by
 by_cases c:aggT P t=true
 ·simp [part,zaZ a,c,za1 a,cutC,List.extract_eq_take_drop,List.map_take,List.map_drop]
 ·have b:o < cs.length:=b.resolve_left c
  simp [part,zaZ a,c,b,ja]
theorem zbi {t:TypeId} {x:SV} {f:Nat} {K:SV→Prop} (m:x.lt st.nx=true) (h:zbg P g t x f K) :
  ∃ sv,K sv∧sv.lt st.nx=true∧(g=true→RunsTo P W0 h0 st (fun ρ=>Instr.field t (x.conc ρ) f) (fun ρ=>sv.conc ρ)):=by
 have e:=SV.cells_lt m
 unfold zbg at h
 split at h
 ·cases h
 ·rename_i off r n
  obtain ⟨i,j,h⟩:=h
  obtain ⟨s,d,k,c,rfl,rfl⟩:=za9 n
  split at h
  ·rename_i b
   refine ⟨_,h,?_,fun a=>RunsTo.mk fun ρ W p=>?_⟩
   ·simp only [SV.lt,wY,cutC]
    exact fun y q=>e y (yA (yB q))
   ·rw [zbf (j a) ρ]
    have:=zbh (P:=P) (W:=W) (cs:=x.cells) (ρ:=ρ) (o:=d.offset) i (.inl b)
    simp only [b,if_true] at this
    simp [Instr.field,run_underlying k,c,asAgg,this]
  ·rename_i b
   refine ⟨_,h.2,?_,fun a=>RunsTo.mk fun ρ W p=>?_⟩
   ·show SC.lt _ _=true
    by_cases l:d.offset < x.cells.length
    ·rw [ja,qX l];exact e _ (qd l)
    ·rw [ja,uE (by omega)];rfl
   ·rw [zbf (j a) ρ]
    have:=zbh (P:=P) (W:=W) (cs:=x.cells) (ρ:=ρ) (o:=d.offset) i (.inr (h.1 a))
    simp only [b,if_false,qW] at this
    simp [Instr.field,run_underlying k,c,asAgg,this]
def zbj (P:Program) (g:Bool) (t:TypeId) (x i:SV) (K:SV→Prop):Prop :=
 (g=true→∃ k,Value.isI k i.val) ∧
 match arrT P t with
 | some (n,e)=>hasT P e=true∧(g=true→isG x∧0≤Value.I i.val∧Value.I i.val < n) ∧
  if aggT P e=true then K (.g (cutC ((Value.I i.val).toNat * szT P e) (szT P e) x.cells))
  else (g=true→(Value.I i.val).toNat * szT P e < x.cells.length)∧K (.c (x.cells.getD ((Value.I i.val).toNat * szT P e) (.v undef)))
 | none=>strT P t=true∧(g=true→Value.isS x.val∧0≤Value.I i.val∧Value.I i.val < (Value.S x.val).size) ∧
   K (.c (.v (.int .u8 (((Value.S x.val)[(Value.I i.val).toNat]?).getD 0).toNat)))
theorem zbk {t:TypeId} (h:strT P t=true):P.underlying t=some .string:=by
 unfold strT at h
 split at h
 ·rename_i a;exact a
 ·cases h
theorem zbl {t:TypeId} {x i:SV} {K:SV→Prop} (s:x.lt st.nx=true) (h:zbj P g t x i K) :
  ∃ sv,K sv∧sv.lt st.nx=true∧(g=true→RunsTo P W0 h0 st (fun ρ=>Instr.index t (x.conc ρ) (i.conc ρ)) (fun ρ=>sv.conc ρ)):=by
 have m:=SV.cells_lt s
 obtain ⟨l,h⟩:=h
 split at h
 ·rename_i n e u
  have c:=zbd u
  obtain ⟨d,f,h⟩:=h
  split at h
  ·rename_i j
   refine ⟨_,h,?_,fun a=>RunsTo.mk fun ρ W p=>?_⟩
   ·simp only [SV.lt,wY,cutC]
    exact fun y w=>m y (yA (yB w))
   ·obtain ⟨k,b⟩:=l a
    rw [zbf (f a).1 ρ,show i.conc ρ=.int k (Value.I i.val) from zax b]
    have:=zbh (P:=P) (W:=W) (cs:=x.cells) (ρ:=ρ) (o:=(Value.I i.val).toNat * szT P e) d (.inl j)
    simp only [j,if_true] at this
    simp [Instr.index,asIntOf,run_underlying c,f a,za1 d,this]
  ·rename_i j
   refine ⟨_,h.2,?_,fun a=>RunsTo.mk fun ρ W p=>?_⟩
   ·show SC.lt _ _=true
    by_cases q:(Value.I i.val).toNat * szT P e < x.cells.length
    ·rw [ja,qX q];exact m _ (qd q)
    ·rw [ja,uE (by omega)];rfl
   ·obtain ⟨k,b⟩:=l a
    rw [zbf (f a).1 ρ,show i.conc ρ=.int k (Value.I i.val) from zax b]
    have:=zbh (P:=P) (W:=W) (cs:=x.cells) (ρ:=ρ) (o:=(Value.I i.val).toNat * szT P e) d (.inr (h.1 a))
    simp only [j,if_false,qW] at this
    simp [Instr.index,asIntOf,run_underlying c,f a,za1 d,this]
 ·obtain ⟨z,D,h⟩:=h
  have c:=zbk z
  refine ⟨_,h,rfl,fun a=>RunsTo.mk fun ρ W p=>?_⟩
  obtain ⟨k,b⟩:=l a
  obtain ⟨F,G,H⟩:=D a
  rw [zaz (ρ:=ρ) F,show i.conc ρ=.int k (Value.I i.val) from zax b]
  have r:(Value.I i.val).toNat < (Value.S x.val).size:=by omega
  simp [Instr.index,asIntOf,run_underlying c,G,r]
def vlen (P:Program) (st:St) (g:Bool) (t:TypeId) (x:SV) (K:SV→Prop):Prop :=
 match zaX P t with
 | some _=>match x with
  | .c (.s r)=>match look r st.p with
   | some (.row _ _ n _)=>K (.c (.v (.int .i64 n)))
   | _=>False
  | .c (.v y)=>(g=true→Value.isA y)∧K (.c (.v (.int .i64 (Value.L y))))
  | _=>False
 | none=>match arrT P t with
  | some (n,_)=>K (.c (.v (.int .i64 n)))
  | none=>strT P t=true∧(g=true→Value.isS x.val)∧K (.c (.v (.int .i64 (Value.S x.val).size)))
theorem zbm {t ty:TypeId} {ts:Array TypeId} {x:SV} {K:SV→Prop} (h:vlen P st g t x K) :
  ∃ sv,K sv∧sv.lt st.nx=true∧(g=true→RunsTo P W0 h0 st (fun ρ=>Builtin.len_ #[t] ty #[x.conc ρ]) (fun ρ=>sv.conc ρ)):=by
 unfold vlen at h
 split at h
 ·rename_i e d
  have a:=zbc d
  split at h
  ·rename_i r
   split at h
   ·rename_i i j n xs k
    refine ⟨_,h,rfl,fun _=>RunsTo.mk fun ρ W c=>?_⟩
    have l:W.ownsRow 0 i j (ρ r) n xs:=c.priv r _ k
    rcases l.2 with ⟨f,h0⟩|⟨o,cap,cur,f,_⟩
    ·subst h0;simp [Builtin.len_,run_underlying a,f,goInt]
    ·simp [Builtin.len_,run_underlying a,f,goInt]
   ·cases h
  ·rename_i y
   refine ⟨_,h.2,rfl,fun b=>RunsTo.mk fun ρ W c=>?_⟩
   have m:=zav (h.1 b)
   rw [zak,zah,m]
   simp [Builtin.len_,run_underlying a,goInt,Value.L]
  ·cases h
 ·split at h
  ·rename_i n e d
   have a:=zbd d
   exact ⟨_,h,rfl,fun _=>RunsTo.mk fun ρ W c=>by simp [Builtin.len_,run_underlying a,goInt]⟩
  ·have a:=zbk h.1
   refine ⟨_,h.2.2,rfl,fun b=>RunsTo.mk fun ρ W c=>?_⟩
   rw [zaz (ρ:=ρ) (h.2.1 b)]
   simp [Builtin.len_,run_underlying a,goInt]
def zbn (f:Int→Int→Int) (a:Int):List SV→Int
 | []=>a
 | x :: xs=>zbn f (f a (Value.I x.val)) xs
def allI (k:IntKind):List SV→Prop
 | []=>True
 | x :: xs=>Value.isI k x.val∧allI k xs
def zbo (P:Program) (g:Bool) (f:Int→Int→Int) (t:TypeId) (xs:List SV) (K:SV→Prop):Prop :=
 match intT P t,xs with
 | some k,x :: xs=>(g=true→Value.isI k x.val∧allI k xs)∧K (.c (.v (.int k (zbn f (Value.I x.val) xs))))
 | _,_=>False
theorem zbp (k:IntKind) (a b:Int) (W:World):(Builtin.max2 (.int k a) (.int k b)).run P W=.ok (.int k (max a b)) W:=by
 simp only [Builtin.max2,Sem.run_pure,Int.max_def]
 congr 2
 split <;> split <;> omega
theorem zbq (k:IntKind) (a b:Int) (W:World):(Builtin.min2 (.int k a) (.int k b)).run P W=.ok (.int k (min a b)) W:=by
 simp only [Builtin.min2,Sem.run_pure,Int.min_def]
 congr 2
 split <;> split <;> omega
theorem zbr {F:Value→Value→Sem Value} {f:Int→Int→Int} {k:IntKind} {ρ:Rho} {W:World} (c:∀ a b,(F (.int k a) (.int k b)).run P W=.ok (.int k (f a b)) W) :
  ∀ (xs:List SV) (a:Int),allI k xs→((xs.map (·.conc ρ)).foldlM F (.int k a)).run P W=.ok (.int k (zbn f a xs)) W
 | [],a,_=>by simp [zbn]
 | x :: xs,a,h=>by
  rw [wx,zax (ρ:=ρ) h.1]
  simp only [List.foldlM_cons,Sem.run_bind,c,Result.andThen_ok,zbn]
  exact zbr c xs _ h.2
theorem zbs {t ty:TypeId} {ts:Array TypeId} {xs:List SV} {K:SV→Prop} (h:zbo P g max t xs K) :
  ∃ sv,K sv∧sv.lt st.nx=true∧(g=true→RunsTo P W0 h0 st (fun ρ=>Builtin.max_ ts ty (xs.map (·.conc ρ)).toArray) (fun ρ=>sv.conc ρ)):=by
 unfold zbo at h
 split at h
 ·rename_i k x xs _
  refine ⟨_,h.2,rfl,fun c=>RunsTo.mk fun ρ W e=>?_⟩
  obtain ⟨d,h2⟩:=h.1 c
  rw [wx,zax (ρ:=ρ) d]
  simp only [Builtin.max_]
  exact zbr (fun a b=>zbp k a b W) xs _ h2
 ·cases h
theorem zbt {t ty:TypeId} {ts:Array TypeId} {xs:List SV} {K:SV→Prop} (h:zbo P g min t xs K) :
  ∃ sv,K sv∧sv.lt st.nx=true∧(g=true→RunsTo P W0 h0 st (fun ρ=>Builtin.min_ ts ty (xs.map (·.conc ρ)).toArray) (fun ρ=>sv.conc ρ)):=by
 unfold zbo at h
 split at h
 ·rename_i k x xs _
  refine ⟨_,h.2,rfl,fun c=>RunsTo.mk fun ρ W e=>?_⟩
  obtain ⟨d,h2⟩:=h.1 c
  rw [wx,zax (ρ:=ρ) d]
  simp only [Builtin.min_]
  exact zbr (fun a b=>zbq k a b W) xs _ h2
 ·cases h
def vun (g:Bool) (op:UnOp) (x:SV) (K:SV→Prop):Prop :=
 match op with
 | .not=>(g=true→Value.isB x.val)∧K (.c (.v (.bool (!Value.B x.val))))
 | .neg=>(g=true→Value.isI .i64 x.val)∧K (.c (.v (.int .i64 (IntKind.i64.wrap (0 - Value.I x.val)))))
 | _=>False
theorem zbu {op:UnOp} {x:SV} {K:SV→Prop} (h:vun g op x K) :
  ∃ sv,K sv∧sv.lt st.nx=true∧(g=true→RunsTo P W0 h0 st (fun ρ=>Op.unary op (x.conc ρ)) (fun ρ=>sv.conc ρ)):=by
 cases op <;> simp only [vun] at h <;> first|exact h.elim|skip
 ·refine ⟨_,h.2,rfl,fun a=>RunsTo.mk fun ρ W b=>?_⟩
  rw [zax (ρ:=ρ) (h.1 a)]
  simp [Op.unary,Op.intArith]
 ·refine ⟨_,h.2,rfl,fun a=>RunsTo.mk fun ρ W b=>?_⟩
  rw [zay (ρ:=ρ) (h.1 a)]
  simp [Op.unary]
def zbv (P:Program) (g:Bool) (s d:TypeId) (x:SV) (K:SV→Prop):Prop :=
 match intT P d with
 | some k=>hasT P s=true∧(g=true→∃ k',Value.isI k' x.val)∧K (.c (.v (.int k (k.wrap (Value.I x.val)))))
 | none=>False
theorem zbw {t:TypeId} {k:IntKind} (h:intT P t=some k):P.underlying t=some (.int k):=by
 unfold intT at h
 split at h
 ·rename_i a;simp only [Option.some.injEq] at h;rw [a,h]
 ·cases h
theorem zbx {s d:TypeId} {x:SV} {K:SV→Prop} (h:zbv P g s d x K) :
  ∃ sv,K sv∧sv.lt st.nx=true∧(g=true→RunsTo P W0 h0 st (fun ρ=>convert s d (x.conc ρ)) (fun ρ=>sv.conc ρ)):=by
 unfold zbv at h
 split at h
 ·rename_i k e
  have f:=zbw e
  obtain ⟨i,j,h2⟩:=h
  refine ⟨_,h2,rfl,fun a=>RunsTo.mk fun ρ W l=>?_⟩
  obtain ⟨m,b⟩:=j a
  rw [zax (ρ:=ρ) b]
  obtain ⟨n,c⟩:=Option.isSome_iff_exists.1 i
  simp [convert,run_underlying f,run_underlying c,Conv.intToInt]
 ·cases h
def zby (g:Bool) (x:SV) (i:Nat) (K:SV→Prop):Prop :=
 (g=true→Value.isT i x.val)∧K (.of ((Value.T x.val).getD i undef))
theorem zbz {x:SV} {i:Nat} {K:SV→Prop} (h:zby g x i K) :
  ∃ sv,K sv∧sv.lt st.nx=true∧(g=true→RunsTo P W0 h0 st (fun ρ=>Instr.extract (x.conc ρ) i) (fun ρ=>sv.conc ρ)):=by
 refine ⟨_,h.2,SV.of_lt _ _,fun a=>RunsTo.mk fun ρ W c=>?_⟩
 obtain ⟨vs,b,h2⟩:=zaA (ρ:=ρ) (h.1 a)
 simp [b,Instr.extract,h2,SV.conc_of]
def isFn:Value→Prop
 | .func (.func _) _ _=>True
 | _=>False
def vnil (g:Bool) (x:SV) (K:SV→Prop):Prop :=
 match x with
 | .c (.p r o)=>K (.c (.p r o))
 | .c (.v y)=>(g=true→Value.isP y∨isFn y)∧K (.c (.v y))
 | _=>False
def zbA (P:Program) (g:Bool) (t:TypeId) (x:SV) (lo hi:Option SV) (K:SV→Prop):Prop :=
 match x with
 | .c (.v y)=>match zaX P t with
  | some e =>
   hasT P e=true∧(g=true→Value.isA y∧(∀ l,lo=some l→∃ k,Value.isI k l.val)∧(∀ u,hi=some u→∃ k,Value.isI k u.val) ∧
    0≤(lo.map (Value.I ·.val)).getD 0∧(lo.map (Value.I ·.val)).getD 0≤(hi.map (Value.I ·.val)).getD (Value.L y) ∧
    (hi.map (Value.I ·.val)).getD (Value.L y)≤(if hi.isSome then Value.C y else Value.L y)) ∧
   K (.c (.v (.slice (if Value.C y=((lo.map (Value.I ·.val)).getD 0).toNat then Value.A y else (Value.A y).map (·.add (((lo.map (Value.I ·.val)).getD 0).toNat * szT P e)))
    (((hi.map (Value.I ·.val)).getD (Value.L y)).toNat - ((lo.map (Value.I ·.val)).getD 0).toNat) (Value.C y - ((lo.map (Value.I ·.val)).getD 0).toNat))))
  | none=>strT P t=true∧(g=true→Value.isS y∧(∀ l,lo=some l→∃ k,Value.isI k l.val)∧(∀ u,hi=some u→∃ k,Value.isI k u.val) ∧
    0≤(lo.map (Value.I ·.val)).getD 0∧(lo.map (Value.I ·.val)).getD 0≤(hi.map (Value.I ·.val)).getD (Value.S y).size ∧
    (hi.map (Value.I ·.val)).getD (Value.S y).size≤(Value.S y).size) ∧
   K (.c (.v (.string ((Value.S y).extract ((lo.map (Value.I ·.val)).getD 0).toNat (((hi.map (Value.I ·.val)).getD (Value.S y).size).toNat)))))
 | _=>False
theorem zbB {k:IntKind} {i:Int} {y:Nat} {a:BoundsCode} {W:World} (h0:0≤i) (b:i≤y):(Instr.sliceBound (.int k i) y a).run P W=.ok i.toNat W:=by
 simp [Instr.sliceBound,asIntOf,h0,b]
theorem zbC {t:TypeId} {x:SV} {q j:Option SV} {K:SV→Prop} (h:zbA P g t x q j K) :
  ∃ sv,K sv∧sv.lt st.nx=true∧(g=true→RunsTo P W0 h0 st (fun ρ=>Instr.sliceAt t (x.conc ρ) (q.map (·.conc ρ)) (j.map (·.conc ρ)) none) (fun ρ=>sv.conc ρ)):=by
 unfold zbA at h
 split at h
 ·rename_i y
  split at h
  ·rename_i e D
   have a:=zbc D
   obtain ⟨r,s,h⟩:=h
   refine ⟨_,h,rfl,fun m=>RunsTo.mk fun ρ W F=>?_⟩
   obtain ⟨G,w,n,c,d,f⟩:=s m
   have z:=zav G
   rw [zak,zah]
   conv=>lhs;rw [z]
   cases q with
   | none =>
    cases j with
    | none =>
     simp [Instr.sliceAt,Instr.slice,run_underlying a,Instr.sliceBounds,za1 r]
    | some u =>
     obtain ⟨k,b⟩:=n u rfl
     simp only [qq,jc,jX,if_true,Option.map_none,Option.getD_none] at c d f
     simp [Instr.sliceAt,Instr.slice,run_underlying a,Instr.sliceBounds,za1 r,show u.conc ρ=.int k (Value.I u.val) from zax b,zbB (P:=P) (W:=W) (k:=k) (i:=Value.I u.val) (y:=Value.C y) (by omega) (by omega)]
   | some l =>
    obtain ⟨k,b⟩:=w l rfl
    cases j with
    | none =>
     simp only [qq,jc,yG,Option.map_none,Option.getD_none,qW,if_false] at c d f
     simp [Instr.sliceAt,Instr.slice,run_underlying a,Instr.sliceBounds,za1 r,show l.conc ρ=.int k (Value.I l.val) from zax b,zbB (P:=P) (W:=W) (k:=k) (i:=Value.I l.val) (y:=Value.L y) (by omega) (by omega)]
    | some u =>
     obtain ⟨o,p⟩:=n u rfl
     simp only [qq,jc,jX,if_true] at c d f
     simp [Instr.sliceAt,Instr.slice,run_underlying a,Instr.sliceBounds,za1 r,show l.conc ρ=.int k (Value.I l.val) from zax b,show u.conc ρ=.int o (Value.I u.val) from zax p,
      zbB (P:=P) (W:=W) (k:=o) (i:=Value.I u.val) (y:=Value.C y) (by omega) (by omega),zbB (P:=P) (W:=W) (k:=k) (i:=Value.I l.val) (y:=(Value.I u.val).toNat) (by omega) (by omega)]
  ·obtain ⟨H,s,h⟩:=h
   have a:=zbk H
   refine ⟨_,h,rfl,fun m=>RunsTo.mk fun ρ W F=>?_⟩
   obtain ⟨J,w,n,c,d,f⟩:=s m
   have z:=zat J
   rw [zak,zah]
   conv=>lhs;rw [z]
   cases q with
   | none =>
    cases j with
    | none =>
     simp [Instr.sliceAt,Instr.slice,run_underlying a,Instr.sliceBounds]
    | some u =>
     obtain ⟨k,b⟩:=n u rfl
     simp only [qq,jc,Option.map_none,Option.getD_none] at c d f
     simp [Instr.sliceAt,Instr.slice,run_underlying a,Instr.sliceBounds,show u.conc ρ=.int k (Value.I u.val) from zax b,zbB (P:=P) (W:=W) (k:=k) (i:=Value.I u.val) (y:=(Value.S y).size) (by omega) (by omega)]
   | some l =>
    obtain ⟨k,b⟩:=w l rfl
    cases j with
    | none =>
     simp only [qq,jc,Option.map_none,Option.getD_none] at c d f
     simp [Instr.sliceAt,Instr.slice,run_underlying a,Instr.sliceBounds,show l.conc ρ=.int k (Value.I l.val) from zax b,zbB (P:=P) (W:=W) (k:=k) (i:=Value.I l.val) (y:=(Value.S y).size) (by omega) (by omega)]
    | some u =>
     obtain ⟨o,p⟩:=n u rfl
     simp only [qq,jc] at c d f
     simp [Instr.sliceAt,Instr.slice,run_underlying a,Instr.sliceBounds,show l.conc ρ=.int k (Value.I l.val) from zax b,show u.conc ρ=.int o (Value.I u.val) from zax p,
      zbB (P:=P) (W:=W) (k:=o) (i:=Value.I u.val) (y:=(Value.S y).size) (by omega) (by omega),zbB (P:=P) (W:=W) (k:=k) (i:=Value.I l.val) (y:=(Value.I u.val).toNat) (by omega) (by omega)]
 ·cases h
end
open Go Go.RowKit
def zbD (P:Program) (t:TypeId) (i:Nat):Option (Nat × Nat) :=
 match P.underlying t with
 | some (.struct fs)=>(fs[i]?).map fun f=>(f.offset,szT P f.type)
 | some (.array _ e)=>some (i * szT P e,szT P e)
 | _=>none
def zbE (P:Program) (t:TypeId):Bool :=
 match P.underlying t with
 | some (.struct fs)=>fs.toList.all fun f=>hasT P f.type
 | some (.array _ e)=>hasT P e
 | _=>false
def zbF (P:Program) (t:TypeId):Option (List Value):=((P.info? t).bind (·.zero)).map fun z=>z.cells.toList
def zbG {α:Type} (o:Nat) (new cs:List α):List α:=cs.take o ++ (new ++ cs.drop (o+new.length))
def zbH (P:Program) (t:TypeId):List (Nat × SV)→List SC→(List SC→Prop)→Prop
 | [],cs,K=>K cs
 | (i,x) :: l,cs,K=>match zbD P t i with
  | some (off,size)=>x.cells.length=size∧off+size≤cs.length∧(∀ r,x ≠ .c (.s r))∧zbH P t l (zbG off x.cells cs) K
  | none=>False
def zbI (P:Program) (t:TypeId) (parts:List (Nat × SV)) (K:SV→Prop):Prop :=
 zbE P t=true∧hasT P t=true∧match zbF P t with
  | some z=>zbH P t parts (z.map .v) fun cs=>K (.g cs)
  | none=>False
section
variable {P:Program} {W0:Base} {h0:Hp} {st:St} {g:Bool}
theorem zbJ:∀ (new:List Value) (cs:List Value) (o j:Nat),o+j+new.length≤cs.length →
  (new.zipIdx j).foldl (fun (a:Array Value) (x:Value × Nat)=>a.setIfInBounds (o+x.2) x.1) cs.toArray=(zbG (o+j) new cs).toArray
 | [],cs,o,j,_=>by simp [zbG]
 | v :: new,cs,o,j,h=>by
  simp only [qv] at h
  simp only [List.zipIdx_cons,wH,List.setIfInBounds_toArray]
  rw [zbJ new (cs.set (o+j) v) o (j+1) (by simp;omega)]
  congr 1
  simp only [zbG]
  have d:min (o+(j+1)) cs.length=o+(j+1):=by omega
  have e:min (o+j) cs.length=o+j:=by omega
  apply List.ext_getElem?
  intro i
  simp only [List.getElem?_append,ww,wc,yF,uF,qv,List.getElem?_set,d,e]
  rcases Nat.lt_trichotomy i (o+j) with b|b|b
  ·rw [if_pos (by omega),if_pos (by omega),if_neg (by omega),if_pos (by omega),if_pos (by omega)]
  ·subst b
   rw [if_pos (by omega),if_pos (by omega),if_pos rfl,if_pos (by omega),if_neg (by omega),if_pos (by omega)]
   simp
  ·rw [if_neg (show ¬ i < o+(j+1) by omega),if_neg (show ¬ i < o+j by omega)]
   have f:i - (o+j)=(i - (o+(j+1)))+1:=by omega
   rw [f]
   by_cases c:i - (o+(j+1)) < new.length
   ·rw [if_pos c,if_pos (by omega)]
    simp
   ·rw [if_neg c,if_neg (by omega),if_neg (by omega)]
    congr 1
    omega
theorem zbK {e:Nat} {t:TypeId} {pl:Nat→Option (Nat × Nat)} (g:∀ i x,zbD P t i=some x→pl i=some x):∀ {parts:List (Nat × SV)} {cs:List SC} {K:List SC→Prop},
  (∀ x ∈ parts,x.2.lt e=true)→(∀ c ∈ cs,c.lt e=true)→zbH P t parts cs K →
  ∃ d,K d∧(∀ c ∈ d,c.lt e=true)∧∀ ρ,Instr.fill pl (cs.map (·.conc ρ)).toArray (parts.map fun x=>(x.1,x.2.conc ρ))=some (d.map (·.conc ρ)).toArray
 | [],cs,K,_,f,h=>⟨cs,h,f,fun _=>rfl⟩
 | (i,x) :: l,cs,K,j,f,h=>by
  simp only [zbH] at h
  split at h
  ·rename_i off q k
   obtain ⟨m,h2,s,h⟩:=h
   have n:=j (i,x) qC
   have o:∀ c ∈ zbG off x.cells cs,c.lt e=true:=by
    intro c b
    simp only [zbG,ye] at b
    rcases b with b|b|b
    ·exact f c (yB b)
    ·exact SV.cells_lt n c b
    ·exact f c (yA b)
   obtain ⟨d,u,w,z⟩:=zbK g (parts:=l) (fun y D=>j y (qg _ D)) o h
   refine ⟨d,u,w,fun ρ=>?_⟩
   rw [← z ρ]
   have p:=(SV.cells_conc ρ x).resolve_right (fun ⟨r,F⟩=>s r F)
   have:=zbJ (x.cells.map (·.conc ρ)) (cs.map (·.conc ρ)) off 0 (by simp [m];omega)
   simp only [qJ] at this
   have G:((x.cells.map (·.conc ρ)).toArray.zipIdx).foldl (fun (a:Array Value) (y:Value × Nat)=>a.setIfInBounds (off+y.2) y.1) (cs.map (·.conc ρ)).toArray=((zbG off x.cells cs).map (·.conc ρ)).toArray:=by
    rw [← Array.foldl_toList,Array.toList_zipIdx,this]
    simp [zbG,List.map_take,List.map_drop]
   simp only [wx,Instr.fill,g _ _ k,p,qK,jH,m,ne_eq,not_true_eq_false,gt_iff_lt,Nat.not_lt.2 h2,decide_false,Bool.or_self,qW,if_false]
   exact congrArg (fun A=>Instr.fill pl A (l.map fun x=>(x.1,x.2.conc ρ))) G
  ·cases h
theorem zbL {t:TypeId} {z:List Value} (h:zbF P t=some z):∃ v:Value,v.cells.toList=z∧∀ W,(zeroValue t).run P W=.ok v W:=by
 unfold zbF at h
 obtain ⟨v,a,h2⟩:=Option.map_eq_some_iff.1 h
 obtain ⟨i,b,c⟩:=Option.bind_eq_some_iff.1 a
 exact ⟨v,h2,fun W=>by simp [zeroValue,typeInfo,b,c]⟩
theorem zbM {W:World}:∀ (a:List Field),(∀ f ∈ a,hasT P f.type=true) →
  (a.mapM (m:=Sem) fun f=>do pure (f.offset,← sizeOf f.type)).run P W=.ok (a.map fun f=>(f.offset,szT P f.type)) W
 | [],_=>rfl
 | f :: a,h=>by
  have b:=zbM (W:=W) a (fun x c=>h x (qg _ c))
  rw [List.mapM_cons]
  simp only [Sem.run_bind,za1 (P:=P) (h f qC),Result.andThen_ok,Sem.run_pure,b,wx]
theorem zbN {t:TypeId} {parts:List (Nat × SV)} {K:SV→Prop} (G:∀ x ∈ parts,x.2.lt st.nx=true) (h:zbI P t parts K) :
  ∃ sv,K sv∧sv.lt st.nx=true∧RunsTo P W0 h0 st (fun ρ=>Instr.build t (parts.map fun x=>(x.1,x.2.conc ρ)).toArray) (fun ρ=>sv.conc ρ):=by
 obtain ⟨a,H,h⟩:=h
 split at h
 ·rename_i z J
  obtain ⟨v,M,j⟩:=zbL J
  have q:∀ c ∈ z.map SC.v,c.lt st.nx=true:=by
   intro c N
   obtain ⟨y,_,rfl⟩:=List.mem_map.1 N
   rfl
  have r:∀ ρ,(z.map SC.v).map (·.conc ρ)=z:=by intro ρ;simp [yj,Function.comp_def]
  obtain ⟨d,k⟩:=Option.isSome_iff_exists.1 H
  have s:v.cells=z.toArray:=by rw [← M]
  unfold zbE at a
  rw [k] at a
  cases d <;> simp only at a <;> first|cases a|skip
  case struct fs =>
   have u:∀ f ∈ fs.toList,hasT P f.type=true:=fun f b=>List.all_eq_true.1 a f b
   obtain ⟨o,w,D,F⟩:=zbK (P:=P) (t:=t) (pl:=fun i=>(fs.toList.map fun f=>(f.offset,szT P f.type)).toArray[i]?) (fun i x p=>by
    simp only [zbD,k] at p
    simpa using p) G q h
   refine ⟨.g o,w,by simpa [SV.lt,wY] using D,RunsTo.mk fun ρ W O=>?_⟩
   have Q:(fs.mapM (m:=Sem) fun f=>do pure (f.offset,← sizeOf f.type)).run P W=.ok (fs.toList.map fun f=>(f.offset,szT P f.type)).toArray W:=by
    rw [Array.mapM_eq_mapM_toList]
    have e:∀ m:Sem (List (Nat × Nat)),(List.toArray <$> m)=m >>= fun l=>pure l.toArray:=fun _=>rfl
    rw [e]
    simp only [Sem.run_bind,zbM (P:=P) (W:=W) fs.toList u,Result.andThen_ok,Sem.run_pure]
   have b:=F ρ
   rw [r] at b
   simp only [Instr.build,Sem.run_bind,j,Result.andThen_ok,run_underlying k,Q,s]
   simp only [b,Sem.run_pure,zal]
  case array n e =>
   obtain ⟨o,w,D,F⟩:=zbK (P:=P) (t:=t) (pl:=fun i=>some (i * szT P e,szT P e)) (fun i x p=>by
    simp only [zbD,k] at p
    simpa using p) G q h
   refine ⟨.g o,w,by simpa [SV.lt,wY] using D,RunsTo.mk fun ρ W O=>?_⟩
   have b:=F ρ
   rw [r] at b
   simp only [Instr.build,Sem.run_bind,j,Result.andThen_ok,run_underlying k,za1 (P:=P) a,s]
   simp only [b,Sem.run_pure,zal]
 ·cases h
end
open Go Go.RowKit
def zbO (P:Program) (st:St) (g:Bool) (b:Builtin) (ts:List TypeId) (xs:List Operand) (K:SV→Prop):Prop :=
 match b,ts with
 | .len,[t]=>zaC st g xs fun vs=>match vs with
  | [x]=>vlen P st g t x K
  | _=>False
 | .max,t :: _=>zaC st g xs fun vs=>zbo P g max t vs K
 | .min,t :: _=>zaC st g xs fun vs=>zbo P g min t vs K
 | _,_=>False
def optO (st:St) (g:Bool) (x:Option Operand) (K:Option SV→Prop):Prop :=
 match x with
 | none=>K none
 | some x=>getO st g x fun v=>K (some v)
def zbP (st:St) (g:Bool) (c a b:Operand) (K:SV→Prop):Prop :=
 getO st g c fun vc=>(g=true→Value.isB vc.val) ∧
  getO st (g && Value.B vc.val) a fun va=>(g=true→Value.B vc.val=true→Value.isB va.val) ∧
   getO st (g && !Value.B vc.val) b fun vb=>(g=true→Value.B vc.val=false→Value.isB vb.val) ∧
    K (.c (.v (.bool (bif Value.B vc.val then Value.B va.val else Value.B vb.val))))
def vq (P:Program) (st:St) (g:Bool) (op:Op) (K:SV→Prop):Prop :=
 match op with
 | .move x=>getO st g x K
 | .assign x=>getO st g x K
 | .pick c a b=>zbP st g c a b K
 | .load t x=>getO st g x fun v=>za2 P st g t v K
 | .nilCheck x=>getO st g x fun v=>vnil g v K
 | .binOp op t x y _=>getO st g x fun a=>getO st g y fun b=>vbin P g op t a b fun v=>K (.c (.v v))
 | .unOp op _ x=>getO st g x fun v=>vun g op v K
 | .convert s d x=>getO st g x fun v=>zbv P g s d v K
 | .fieldAddr t x f=>getO st g x fun v=>za8 P g t v f K
 | .field t x f=>getO st g x fun v=>zbg P g t v f K
 | .indexAddr t x i=>getO st g x fun v=>getO st g i fun j=>zbb P st g t v j K
 | .index t x i=>getO st g x fun v=>getO st g i fun j=>zbj P g t v j K
 | .extract x i=>getO st g x fun v=>zby g v i K
 | .slice t x lo hi none=>getO st g x fun v=>optO st g lo fun l=>optO st g hi fun u=>zbA P g t v l u K
 | .build t ps=>zaC st g (ps.toList.map (·.2)) fun vs=>(g=true)∧zbI P t ((ps.toList.map (·.1)).zip vs) K
 | .call c=>match c.callee with
  | .builtin b=>zbO P st g b c.argTypes.toList c.args.toList K
  | _=>False
 | _=>False
section
variable {P:Program} {W0:Base} {h0:Hp} {N:Nat} {st:St} {g:Bool}
def Yv (P:Program) (W0:Base) (h0:Hp) (N:Nat) (st:St) (o:Oper) (sv:SV):Prop :=
 ∀ ρ a W,FOk N ρ st.e a→WOk W0 h0 ρ st.p st.h W→(execOp a.eval o).run P W=.ok (.value (sv.conc ρ)) W
theorem zbQ {x:Option Operand} {K:Option SV→Prop} (b:st.wf=true) (h:optO st g x K) :
  ∃ v,K v∧(g=true→∀ ρ a,FOk N ρ st.e a→x.map a.eval=v.map (·.conc ρ)):=by
 cases x with
 | none=>exact ⟨none,h,fun _ _ _ _=>rfl⟩
 | some x =>
  obtain ⟨sv,c,_,d⟩:=zaB (N:=N) (x:=x) (g:=g) (K:=fun v=>K (some v)) b h
  exact ⟨some sv,c,fun f ρ a i=>by simp [d f ρ a i]⟩
theorem zbR {S:Sem Value} {v:Value} {W:World} (h:S.run P W=.ok v W):(do pure (Next.value (← S)):Sem Next).run P W=.ok (.value v) W:=by
 simp [Sem.run_bind,h]
theorem zbS {o:Oper} {K:SV→Prop} (z:st.wf=true) (h:vq P st g o.op K) :
  ∃ sv,K sv∧sv.lt st.nx=true∧(g=true→Yv P W0 h0 N st o sv):=by
 obtain ⟨ac,op,D,ae,aa,guard⟩:=o
 cases op <;> simp only [vq] at h <;> first|exact h.elim|skip
 case move x =>
  obtain ⟨sv,p,h2,q⟩:=zaB (N:=N) z h
  exact ⟨sv,p,h2,fun k ρ a W m _=>by simp [execOp,q k ρ a m]⟩
 case assign x =>
  obtain ⟨sv,p,h2,q⟩:=zaB (N:=N) z h
  exact ⟨sv,p,h2,fun k ρ a W m _=>by simp [execOp,q k ρ a m]⟩
 case pick c x y =>
  unfold zbP at h
  obtain ⟨vc,h,_,X⟩:=zaB (N:=N) z h
  obtain ⟨Y,h⟩:=h
  obtain ⟨va,h,_,ha⟩:=zaB (N:=N) z h
  obtain ⟨ba,h⟩:=h
  obtain ⟨vb,h,_,hb⟩:=zaB (N:=N) z h
  obtain ⟨bb,h⟩:=h
  refine ⟨_,h,rfl,fun k ρ a W m _=>?_⟩
  cases H:Value.B vc.val with
  | true =>
   simp [execOp,X k ρ a m,zay (ρ:=ρ) (Y k),H,asBool,ha (by simp [k,H]) ρ a m,zay (ρ:=ρ) (ba k H)]
  | false =>
   simp [execOp,X k ρ a m,zay (ρ:=ρ) (Y k),H,asBool,hb (by simp [k,H]) ρ a m,zay (ρ:=ρ) (bb k H)]
 case load t x =>
  obtain ⟨v,h,_,n⟩:=zaB (N:=N) z h
  obtain ⟨sv,p,h2,q⟩:=za7 (W0:=W0) (h0:=h0) z h
  exact ⟨sv,p,h2,fun k ρ a W m w=>by simp only [execOp,n k ρ a m];exact zbR (q k ρ W w)⟩
 case nilCheck x =>
  obtain ⟨v,h,G,n⟩:=zaB (N:=N) z h
  unfold vnil at h
  split at h
  ·rename_i r o
   exact ⟨_,h,G,fun k ρ a W m w=>by simp [execOp,n k ρ a m]⟩
  ·rename_i y
   refine ⟨_,h.2,rfl,fun k ρ a W m w=>?_⟩
   simp only [execOp,n k ρ a m,zak,zah]
   rcases h.1 k with M|M
   ·obtain ⟨ad,rfl,_⟩:=zau M;rfl
   ·unfold isFn at M
    split at M
    ·rfl
    ·exact M.elim
  ·exact h.elim
 case binOp op t x y yt =>
  obtain ⟨a1,h,_,n⟩:=zaB (N:=N) z h
  obtain ⟨b1,h,_,hy⟩:=zaB (N:=N) z h
  obtain ⟨v,p,hn,q⟩:=zaV h
  refine ⟨_,p,rfl,fun k ρ a W m w=>?_⟩
  simp only [execOp,n k ρ a m,hy k ρ a m]
  exact zbR (q k ρ W x y)
 case unOp op t x =>
  obtain ⟨v,h,_,n⟩:=zaB (N:=N) z h
  obtain ⟨sv,p,h2,q⟩:=zbu (P:=P) (W0:=W0) (h0:=h0) (st:=st) h
  exact ⟨sv,p,h2,fun k ρ a W m w=>by simp only [execOp,n k ρ a m];exact zbR (q k ρ W w)⟩
 case convert s d x =>
  obtain ⟨v,h,_,n⟩:=zaB (N:=N) z h
  obtain ⟨sv,p,h2,q⟩:=zbx (P:=P) (W0:=W0) (h0:=h0) (st:=st) h
  exact ⟨sv,p,h2,fun k ρ a W m w=>by simp only [execOp,n k ρ a m];exact zbR (q k ρ W w)⟩
 case fieldAddr t x f =>
  obtain ⟨v,h,G,n⟩:=zaB (N:=N) z h
  obtain ⟨sv,p,h2,q⟩:=zba (P:=P) (W0:=W0) (h0:=h0) (st:=st) G h
  exact ⟨sv,p,h2,fun k ρ a W m w=>by simp only [execOp,n k ρ a m];exact zbR (q k ρ W w)⟩
 case field t x f =>
  obtain ⟨v,h,G,n⟩:=zaB (N:=N) z h
  obtain ⟨sv,p,h2,q⟩:=zbi (P:=P) (W0:=W0) (h0:=h0) (st:=st) G h
  exact ⟨sv,p,h2,fun k ρ a W m w=>by simp only [execOp,n k ρ a m];exact zbR (q k ρ W w)⟩
 case indexAddr t x i =>
  obtain ⟨v,h,G,n⟩:=zaB (N:=N) z h
  obtain ⟨j,h,_,R⟩:=zaB (N:=N) z h
  obtain ⟨sv,p,h2,q⟩:=zbe (P:=P) (W0:=W0) (h0:=h0) (st:=st) G h
  exact ⟨sv,p,h2,fun k ρ a W m w=>by simp only [execOp,n k ρ a m,R k ρ a m];exact zbR (q k ρ W w)⟩
 case index t x i =>
  obtain ⟨v,h,G,n⟩:=zaB (N:=N) z h
  obtain ⟨j,h,_,R⟩:=zaB (N:=N) z h
  obtain ⟨sv,p,h2,q⟩:=zbl (P:=P) (W0:=W0) (h0:=h0) (st:=st) G h
  exact ⟨sv,p,h2,fun k ρ a W m w=>by simp only [execOp,n k ρ a m,R k ρ a m];exact zbR (q k ρ W w)⟩
 case extract x i =>
  obtain ⟨v,h,_,n⟩:=zaB (N:=N) z h
  obtain ⟨sv,p,h2,q⟩:=zbz (P:=P) (W0:=W0) (h0:=h0) (st:=st) h
  exact ⟨sv,p,h2,fun k ρ a W m w=>by simp only [execOp,n k ρ a m];exact zbR (q k ρ W w)⟩
 case slice t x lo R mx =>
  cases mx <;> simp only at h <;> first|exact h.elim|skip
  obtain ⟨v,h,_,n⟩:=zaB (N:=N) z h
  obtain ⟨l,h,G⟩:=zbQ (N:=N) z h
  obtain ⟨u,h,hu⟩:=zbQ (N:=N) z h
  obtain ⟨sv,p,h2,q⟩:=zbC (P:=P) (W0:=W0) (h0:=h0) (st:=st) h
  exact ⟨sv,p,h2,fun k ρ a W m w=>by simp only [execOp,n k ρ a m,G k ρ a m,hu k ρ a m,Option.map_none];exact zbR (q k ρ W w)⟩
 case build t ps =>
  obtain ⟨vs,h,ab,G,n⟩:=zaD (N:=N) z h
  obtain ⟨k,h⟩:=h
  obtain ⟨sv,p,h2,q⟩:=zbN (P:=P) (W0:=W0) (h0:=h0) (st:=st) (fun x n=>G _ (List.of_mem_zip n).2) h
  refine ⟨sv,p,h2,fun k ρ a W m w=>?_⟩
  have e:(ps.map fun (i,x)=>(i,a.eval x))=(((ps.toList.map (·.1)).zip vs).map fun x=>(x.1,x.2.conc ρ)).toArray:=by
   have n:=n k ρ a m
   apply Array.toList_inj.1
   simp only [uG]
   have:∀ (l:List (Nat × Operand)) (vs:List SV),(l.map (·.2)).map a.eval=vs.map (·.conc ρ)→l.map (fun x=>(x.1,a.eval x.2))=((l.map (·.1)).zip vs).map fun x=>(x.1,x.2.conc ρ):=by
    intro l
    induction l with
    | nil=>intro vs _;simp
    | cons y l ih =>
     intro vs J
     cases vs with
     | nil=>simp at J
     | cons v vs =>
      simp only [wx,List.cons.injEq] at J
      simp only [wx,List.zip_cons_cons,J.1]
      rw [ih vs J.2]
   exact this ps.toList vs n
  simp only [execOp,e]
  exact zbR (q ρ W w)
 case call c =>
  obtain ⟨O,args,F⟩:=c
  cases O <;> simp only at h <;> first|exact h.elim|skip
  case builtin b =>
   have run:∀ (f:Array TypeId→TypeId→Array Value→Sem Value) (vs:List SV) (sv:SV) (ρ:Rho) (a:Act) (W:World),args.toList.map a.eval=vs.map (·.conc ρ) →
     (f F D (vs.map (·.conc ρ)).toArray).run P W=.ok (sv.conc ρ) W→(f F D (args.map a.eval)).run P W=.ok (sv.conc ρ) W:=by
    intro f vs sv ρ a W H hr
    have:args.map a.eval=(vs.map (·.conc ρ)).toArray:=Array.toList_inj.1 (by rw [uG,H])
    rw [this];exact hr
   unfold zbO at h
   split at h
   ·rename_i t Q
    obtain ⟨vs,h,_,_,n⟩:=zaD (N:=N) z h
    split at h
    ·rename_i x
     obtain ⟨sv,p,h2,q⟩:=zbm (P:=P) (W0:=W0) (h0:=h0) (st:=st) (ty:=D) (ts:=F) h
     refine ⟨sv,p,h2,fun k ρ a W m w=>?_⟩
     have Z:F=#[t]:=Array.toList_inj.1 (by simpa using Q)
     show (do let d ← resolve a.eval ⟨_,args,F⟩ D;invoke d.target d.args:Sem Next).run P W=_
     rw [Sem.run_bind]
     simp only [resolve,Sem.run_pure,Result.andThen_ok,invoke,builtin]
     have:=run Builtin.len_ _ sv ρ a W (n k ρ a m) (by rw [Z];exact q k ρ W w)
     exact zbR this
    ·exact h.elim
   ·rename_i t ts Q
    obtain ⟨vs,h,_,_,n⟩:=zaD (N:=N) z h
    obtain ⟨sv,p,h2,q⟩:=zbs (P:=P) (W0:=W0) (h0:=h0) (st:=st) (ty:=D) (ts:=F) h
    refine ⟨sv,p,h2,fun k ρ a W m w=>?_⟩
    show (do let d ← resolve a.eval ⟨_,args,F⟩ D;invoke d.target d.args:Sem Next).run P W=_
    rw [Sem.run_bind]
    simp only [resolve,Sem.run_pure,Result.andThen_ok,invoke,builtin]
    have:=run Builtin.max_ _ sv ρ a W (n k ρ a m) (q k ρ W w)
    exact zbR this
   ·rename_i t ts Q
    obtain ⟨vs,h,_,_,n⟩:=zaD (N:=N) z h
    obtain ⟨sv,p,h2,q⟩:=zbt (P:=P) (W0:=W0) (h0:=h0) (st:=st) (ty:=D) (ts:=F) h
    refine ⟨sv,p,h2,fun k ρ a W m w=>?_⟩
    show (do let d ← resolve a.eval ⟨_,args,F⟩ D;invoke d.target d.args:Sem Next).run P W=_
    rw [Sem.run_bind]
    simp only [resolve,Sem.run_pure,Result.andThen_ok,invoke,builtin]
    have:=run Builtin.min_ _ sv ρ a W (n k ρ a m) (q k ρ W w)
    exact zbR this
   ·exact h.elim
end
open Go Go.RowKit
def upd (ρ:Rho) (n:Nat) (v:Value):Rho:=fun r=>if r=n then v else ρ r
theorem zbT (ρ:Rho) (n:Nat) (v:Value):upd ρ n v n=v:=by simp [upd]
theorem zbU (ρ:Rho) (n:Nat) (v:Value):∀ r,r < n→ρ r=upd ρ n v r:=by
 intro r a
 simp only [upd]
 rw [if_neg (by omega)]
def atV (v:Value) (g:Nat):Prop:=v=.pointer (some ⟨g,0,none⟩)∨∃ n c,v=.slice (some ⟨g,0,none⟩) n c
theorem zbV {ρ:Rho} {r g:Nat}:PB.at ρ r g ↔ atV (ρ r) g:=Iff.rfl
theorem zbW {v:Value} {g a:Nat} (h:atV v g) (h':atV v a):g=a:=by
 rcases h with rfl|⟨n,c,rfl⟩ <;> rcases h' with h'|⟨b,d,h'⟩ <;> simp_all
theorem PB.ok_congr {n a r:Nat} {ρ ρ':Rho} {W:World} {b:PB} (d:∀ r,r < n→ρ r=ρ' r) (f:r < n) (i:b.lt n=true) (h:b.ok a ρ r W):b.ok a ρ' r W:=by
 cases b with
 | box ty cs =>
  obtain ⟨g,j,h2,k⟩:=h
  refine ⟨g,by rw [← d r f];exact j,h2,?_⟩
  simp only [PB.lt,wY] at i
  rw [k]
  have:cs.map (·.conc ρ)=cs.map (·.conc ρ'):=wb fun c l=>SC.conc_congr d (i c l)
  rw [this]
 | row e o m xs =>
  have h:W.ownsRow a e o (ρ r) m xs:=h
  rw [d r f] at h
  exact h
theorem PB.ok_lt {a r g:Nat} {ρ:Rho} {W:World} {b:PB} (h:b.ok a ρ r W) (d:PB.at ρ r g):a≤g∧g < W.heap.size:=by
 cases b with
 | box ty cs =>
  obtain ⟨i,f,h2,j⟩:=h
  have:g=i:=zbW d (.inl f)
  subst this
  exact ⟨h2,(Array.getElem?_eq_some_iff.1 j).1⟩
 | row e k m xs =>
  have h:W.ownsRow a e k (ρ r) m xs:=h
  rcases d with d|⟨n,c,d⟩
  ·rcases h.2 with ⟨f,_⟩|⟨i,cap,cur,f,_⟩ <;> rw [f] at d <;> cases d
  ·exact h.lt g (by rw [d];rfl)
theorem PB.ok_keep {a r:Nat} {ρ:Rho} {W W':World} {b:PB} (h:b.ok a ρ r W) (f:∀ g,PB.at ρ r g→W'.heap[g]?=W.heap[g]?):b.ok a ρ r W':=by
 cases b with
 | box ty cs =>
  obtain ⟨i,c,h2,d⟩:=h
  exact ⟨i,c,h2,(f i (.inl c)).trans d⟩
 | row e j m xs =>
  have h:W.ownsRow a e j (ρ r) m xs:=h
  refine ⟨h.1,?_⟩
  rcases h.2 with h2|⟨g,cap,cur,c,h2,d,k⟩
  ·exact .inl h2
  ·exact .inr ⟨g,cap,cur,c,h2,(f g (.inr ⟨_,_,c⟩)).trans d,k⟩
section
variable {P:Program} {W0:Base} {h0:Hp} {N nx:Nat} {ρ:Rho} {p p2:List (Nat × PB)} {h:Hp} {W W':World} {e:Env} {a:Act}
theorem FOk.congr {ρ':Rho} (b:FOk N ρ e a) (f:zam nx e=true) (g:∀ r,r < nx→ρ r=ρ' r):FOk N ρ' e a:=by
 refine ⟨b.1,b.2.1,fun t c sv d=>?_⟩
 rw [b.2.2 t c sv d,SV.conc_congr g (zan f d)]
theorem FOk.put {d:Nat} {c:Bool} {sv:SV} {v:Value} (g:FOk N ρ e a) (i:d < N) (j:v=if c=true then sv.conc ρ else undef):FOk N ρ ((d,c,sv) :: e) (a.put (some d) v):=by
 refine ⟨g.1,by simp [Act.put,g.2.1],fun t k h b=>?_⟩
 simp only [look] at b
 split at b
 ·rename_i f
  subst f
  simp only [Option.some.injEq,Prod.mk.injEq] at b
  obtain ⟨rfl,rfl⟩:=b
  simp [Act.put,g.2.1,i,j]
 ·rename_i f
  rw [← g.2.2 t k h b]
  simp only [Act.put]
  rw [uB f]
theorem WOk.add (o:WOk W0 h0 ρ p h W) (y:pbLt nx p=true) (i:∀ r b,look r p2=some b→look r p=some b) {v:Value} {b:PB}
  (z:BelowO W0 W') (D:Sees h W') (F:∀ g,atV v g→W0.own g) (G:∀ r b,look r p2=some b→b.ok 0 ρ r W')
  (H:b.ok 0 (upd ρ nx v) nx W') (J:∀ g,atV v g→h g=none) (t:∀ r a g,look r p2=some a→PB.at ρ r g→¬ atV v g) :
  WOk W0 h0 (upd ρ nx v) ((nx,b) :: p2) h W':=by
 have q:∀ r a,look r p2=some a→r < nx∧a.lt nx=true:=fun r a c=>zao y (i r a c)
 have ne:∀ r a,look r p2=some a→upd ρ nx v r=ρ r:=fun r a c=>(zbU ρ nx v r (q r a c).1).symm
 have e:∀ r a,look r ((nx,b) :: p2)=some a→(r=nx∧a=b)∨(nx ≠ r∧look r p2=some a):=by
  intro r a c
  simp only [look] at c
  split at c
  ·rename_i j;exact .inl ⟨j.symm,by simpa using c.symm⟩
  ·rename_i j;exact .inr ⟨j,c⟩
 refine ⟨z,D,o.ext,o.new,fun r a g c d=>?_,fun r a c=>?_,fun r a g c d=>?_,fun r l m n g c u d f=>?_⟩
 ·rcases e r a c with ⟨rfl,rfl⟩|⟨j,c⟩
  ·exact F g (by rw [zbV,zbT] at d;exact d)
  ·rw [zbV,ne r a c] at d
   exact o.own r a g (i r a c) d
 ·rcases e r a c with ⟨rfl,rfl⟩|⟨j,c⟩
  ·exact H
  ·exact PB.ok_congr (zbU ρ nx v) (q r a c).1 (q r a c).2 (G r a c)
 ·rcases e r a c with ⟨rfl,rfl⟩|⟨j,c⟩
  ·exact J g (by rw [zbV,zbT] at d;exact d)
  ·rw [zbV,ne r a c] at d
   exact o.apart r a g (i r a c) d
 ·rcases e r l c with ⟨w,M⟩|⟨j,s⟩ <;> rcases e m n u with ⟨x,N⟩|⟨K,k⟩
  ·rw [w,x]
  ·rw [w,zbV,zbT] at d
   rw [zbV,ne m n k] at f
   exact (t m n g k f d).elim
  ·rw [x,zbV,zbT] at f
   rw [zbV,ne r l s] at d
   exact (t r l g s d f).elim
  ·rw [zbV,ne r l s] at d
   rw [zbV,ne m n k] at f
   exact o.distinct r l m n g (i r l s) (i m n k) d f
theorem zbX (a:Sees h W) {g:Nat} (b:W.heap.size≤g):h g=none:=by
 cases c:h g with
 | none=>rfl
 | some o =>
  have:=a g o c
  rw [Array.getElem?_eq_none b] at this
  cases this
theorem zbY (c:Sees h W) (d:∀ g,h g ≠ none→W'.heap[g]?=W.heap[g]?):Sees h W':=fun b o a=>by
 rw [d b (by rw [a];simp)]
 exact c b o a
theorem WOk.new_ (a:WOk W0 h0 ρ p h W) (n:pbLt nx p=true) {v:Value} {b:PB} (f:Below W.heap.size W W') (i:∀ g,atV v g→g=W.heap.size)
  (o:b.ok 0 (upd ρ nx v) nx W'):WOk W0 h0 (upd ρ nx v) ((nx,b) :: p) h W':=by
 refine a.add n (fun _ _ x=>x) (a.below.trans (f.mono a.below.size)) (zbY a.sees fun g c=>?_) (fun g c=>by rw [i g c];exact W0.big _ a.below.size) (fun r d e=>?_) o (fun g c=>?_) (fun r d g e j k=>?_)
 ·have:g < W.heap.size:=by
   rcases wv g W.heap.size with l|m
   ·exact l
   ·exact (c (zbX a.sees m)).elim
  exact f.block g this
 ·exact PB.ok_keep (a.priv r d e) fun g c=>f.block g (PB.ok_lt (a.priv r d e) c).2
 ·rw [i g c];exact zbX a.sees (qV _)
 ·have:=(PB.ok_lt (a.priv r d e) j).2
  rw [i g k] at this
  omega
theorem WOk.grow {h':Hp} (a:WOk W0 h0 ρ p h W) (i:Below W.heap.size W W') (j:h.le h') (q:Sees h' W') (k:∀ b o,h' b=some o→h b=none→W.heap.size≤b) :
  WOk W0 h0 ρ p h' W':=by
 refine ⟨a.below.trans (i.mono a.below.size),q,fun b o l h2=>j b o (a.ext b o l h2),fun b o m n=>?_,a.own,fun r c d=>?_,fun r c g d f=>?_,a.distinct⟩
 ·cases e:h b with
  | some s=>exact a.new b s e n
  | none=>exact W0.big b (wK a.below.size (k b o m e))
 ·exact PB.ok_keep (a.priv r c d) fun g t=>i.block g (PB.ok_lt (a.priv r c d) t).2
 ·cases e:h' g with
  | none=>rfl
  | some o =>
   have l:=k g o e (a.apart r c g d f)
   have h2:=(PB.ok_lt (a.priv r c d) f).2
   omega
theorem WOk.drop (c:WOk W0 h0 ρ p h W) (a:∀ r b,look r p2=some b→look r p=some b):WOk W0 h0 ρ p2 h W :=
 ⟨c.below,c.sees,c.ext,c.new,fun r b g d=>c.own r b g (a r b d),fun r b d=>c.priv r b (a r b d),fun r b g d=>c.apart r b g (a r b d),fun r b e f g d i=>c.distinct r b e f g (a r b d) (a e f i)⟩
theorem zbZ (W:World) (o:Obj):Below W.heap.size W (W.alloc o):=(Below.refl _ _).alloc (qV _) o
def setP (r:Nat) (b:PB):List (Nat × PB)→List (Nat × PB)
 | []=>[]
 | (k,x) :: l=>if k=r then (k,b) :: l else (k,x) :: setP r b l
theorem zb0 {r c:Nat} {b e:PB}:∀ {p:List (Nat × PB)},look r p=some e→look c (setP r b p)=if c=r then some b else look c p
 | [],h=>by cases h
 | (k,x) :: l,h=>by
  simp only [look] at h
  by_cases d:k=r
  ·subst d
   simp only [setP,if_true,look]
   by_cases a:k=c
   ·subst a;simp
   ·rw [if_neg a,if_neg (Ne.symm a),if_neg a]
  ·rw [if_neg d] at h
   simp only [setP,if_neg d,look]
   by_cases a:k=c
   ·subst a;rw [if_pos rfl,if_neg d,if_pos rfl]
   ·rw [if_neg a,if_neg a,zb0 h]
theorem zb1 {r n:Nat} {b:PB} (c:b.lt n=true):∀ {p:List (Nat × PB)},pbLt n p=true→pbLt n (setP r b p)=true
 | [],_=>rfl
 | (k,x) :: l,h=>by
  simp only [pbLt,jJ] at h
  by_cases a:k=r
  ·simp [setP,a,pbLt,c,h.2];simpa [a] using h.1.1
  ·simp only [setP,if_neg a,pbLt,jJ]
   exact ⟨h.1,zb1 c h.2⟩
def zb2 (r:Nat):List (Nat × PB)→List (Nat × PB)
 | []=>[]
 | (k,x) :: l=>if k=r then zb2 r l else (k,x) :: zb2 r l
theorem zb3 {r d:Nat} {b:PB}:∀ {p:List (Nat × PB)},look d (zb2 r p)=some b→look d p=some b∧d ≠ r
 | [],h=>by cases h
 | (k,x) :: l,h=>by
  by_cases c:k=r
  ·simp only [zb2,c,if_true] at h
   have:=zb3 h
   refine ⟨?_,this.2⟩
   simp only [look,c]
   rw [if_neg (Ne.symm this.2)]
   exact this.1
  ·simp only [zb2,c,if_false,look] at h ⊢
   split at h
   ·rename_i a;subst a;rw [if_pos rfl];exact ⟨h,c⟩
   ·rename_i a;rw [if_neg a];exact zb3 h
theorem zb4 {r n:Nat}:∀ {p:List (Nat × PB)},pbLt n p=true→pbLt n (zb2 r p)=true
 | [],_=>rfl
 | (k,x) :: l,h=>by
  simp only [pbLt,jJ] at h
  by_cases a:k=r
  ·simp only [zb2,a,if_true];exact zb4 h.2
  ·simp only [zb2,a,if_false,pbLt,jJ];exact ⟨h.1,zb4 h.2⟩
theorem WOk.set_ (c:WOk W0 h0 ρ p h W) {r g:Nat} {m b:PB} (d:look r p=some m) (n:PB.at ρ r g) (cs:Array Value)
  (D:b.ok 0 ρ r (W.setRow g cs)):WOk W0 h0 ρ (setP r b p) h (W.setRow g cs):=by
 have K:=PB.ok_lt (c.priv r m d) n
 have F:=c.apart r m g d n
 have j:∀ k,k ≠ g→(W.setRow g cs).heap[k]?=W.heap[k]?:=fun k q=>setRow_other W g k cs q
 refine ⟨c.below.step rfl rfl rfl (by simp [World.setRow]) fun k q _=>j k (fun e=>q (by rw [e];exact c.own r m g d n)),zbY c.sees fun k q=>j k (fun e=>q (by rw [e];exact F)),c.ext,c.new,fun l o i a f=>?_,fun l o a=>?_,fun l o i a f=>?_,fun w M r2 N i s h2 G H=>?_⟩
 ·rw [zb0 d] at a
  split at a
  ·rename_i e;subst e;exact c.own l m i d f
  ·exact c.own l o i a f
 ·rw [zb0 d] at a
  split at a
  ·rename_i e;subst e;simp only [Option.some.injEq] at a;subst a;exact D
  ·rename_i e
   refine PB.ok_keep (c.priv l o a) fun i x=>j i (fun J=>?_)
   subst J
   exact e (c.distinct l o r m i a d x n)
 ·rw [zb0 d] at a
  split at a
  ·rename_i e;subst e;exact c.apart l m i d f
  ·exact c.apart l o i a f
 ·have t:∃ b,look w p=some b:=by
   rw [zb0 d] at s
   split at s
   ·rename_i e;subst e;exact ⟨_,d⟩
   ·exact ⟨_,s⟩
  have u:∃ b,look r2 p=some b:=by
   rw [zb0 d] at h2
   split at h2
   ·rename_i e;subst e;exact ⟨_,d⟩
   ·exact ⟨_,h2⟩
  obtain ⟨y,t⟩:=t
  obtain ⟨z,u⟩:=u
  exact c.distinct w y r2 z i t u G H
end
open Go Go.RowKit
@[irreducible] def Ct (P:Program) (f:FuncId) (args:List Value) (h:Hp) (R:Value→Hp→Prop):Prop :=
 (∀ A W,(callFunc f A).run P W=.ok (.enter f A) W) ∧
 ∀ W,Sees h W→Calls P f args.toArray W fun e W'=>∃ v h',e=.returned v∧R v h'∧Below W.heap.size W W'∧h.le h'∧Sees h' W'∧∀ b o,h' b=some o→h b=none→W.heap.size≤b
theorem Ct.mono {P:Program} {f:FuncId} {a:List Value} {h:Hp} {R c:Value→Hp→Prop} (H:Ct P f a h R) (d:∀ v h',h.le h'→R v h'→c v h'):Ct P f a h c:=by
 unfold Ct at *
 exact ⟨H.1,fun W e=>(H.2 W e).mono fun _ _ ⟨v,h',g,r,b,l,s,n⟩=>⟨v,h',g,d v h' l r,b,l,s,n⟩⟩
def Hp.ins (h:Hp) (g:Nat) (o:Obj):Hp:=fun b=>if b=g then some o else h b
theorem Hp.ins_le {h:Hp} {g:Nat} {o:Obj} (c:h g=none):h.le (h.ins g o):=by
 intro b x a
 simp only [Hp.ins]
 split
 ·rename_i e;subst e;rw [c] at a;cases a
 ·exact a
def zb5 (e:Env) (d:Option Nat) (c:Bool) (sv:SV):Env :=
 match d with
 | none=>e
 | some d=>(d,c,sv) :: e
def St.put (st:St) (d:Option Nat) (c:Bool) (sv:SV):St:=⟨zb5 st.e d c sv,st.p,st.h,st.nx⟩
def zb6:List Oper→Nat→Option Tmp
 | [],_=>none
 | o :: _,0=>o.dst
 | _ :: l,j+1=>zb6 l j
def onG (x:Option (Bool × SV)) (want:Bool) (K:Bool→Prop):Prop :=
 match x with
 | some (c,sv)=>(c=true→Value.isB sv.val)∧K (c && (Value.B sv.val == want))
 | none=>False
def onD (x:Option Tmp) (K:Tmp→Prop):Prop :=
 match x with
 | some d=>K d
 | none=>False
def vgd (ops:List Oper) (st:St) (gd:Option (Nat × Bool)) (K:Bool→Prop):Prop :=
 match gd with
 | none=>K true
 | some (j,want)=>onD (zb6 ops j) fun d=>onG (look d st.e) want K
def SC.okc (p:List (Nat × PB)):SC→Bool
 | .v x=>x.oneCell'
 | .p _ _=>true
 | .s r=>match look r p with
  | some (.row ..)=>true
  | _=>false
def zb7:SC→Bool|.v _=>true|_=>false
def SV.plain:SV→Bool
 | .c x=>zb7 x
 | .g cs=>cs.all zb7
def SV.pv:SV→Value
 | .c x=>x.val
 | .g cs=>.agg (cs.map (·.val)).toArray
theorem SV.pv_conc {x:SV} (h:x.plain=true) (ρ:Rho):x.conc ρ=x.pv:=by
 cases x with
 | c x=>cases x <;> simp_all [SV.plain,zb7,SV.pv,SC.val]
 | g cs =>
  simp only [SV.plain,wY] at h
  simp only [zal,SV.pv]
  congr 2
  exact wb fun c a=>by have:=h c a;cases c <;> simp_all [zb7,SC.val]
def zb8 (P:Program) (p:List (Nat × PB)) (t:TypeId) (r o:Nat) (b:Option PB) (x:SV) (K:List (Nat × PB)→Prop):Prop :=
 match b with
 | some (.box ty cs)=>x.cells.length=szT P t∧o+szT P t≤cs.length∧(x.cells.all (·.okc p))=true∧K (setP r (.box ty (zbG o x.cells cs)) p)
 | some (.row e sz n xs)=>x.cells.length=szT P t∧o+szT P t≤xs.length∧(x.cells.all fun c=>zb7 c && c.val.oneCell')=true∧K (setP r (.row e sz n (zbG o (x.cells.map (·.val)) xs)) p)
 | none=>False
def zb9 (P:Program) (p:List (Nat × PB)) (t:TypeId) (a x:SV) (K:List (Nat × PB)→Prop):Prop :=
 hasT P t=true∧match a with
 | .c (.p r o)=>zb8 P p t r o (look r p) x K
 | _=>False
def zca (P:Program) (t:TypeId) (K:List Value→Prop):Prop :=
 match zbF P t with
 | some z=>K z
 | none=>False
def zcb (sz:Nat):Nat→List Nat→List SV→Prop
 | _,[],[]=>True
 | i,j :: js,x :: xs=>j=i∧x.cells.length=sz∧x.plain=true∧zcb sz (i+1) js xs
 | _,_,_=>False
def Hp.ldL (h:Hp) (y:Value) (size:Nat):Option (List Value):=if Value.L y=0 then some [] else h.lds (Value.A y) (Value.L y * size)
def zcc (P:Program) (t:TypeId) (K:TypeId→Prop):Prop :=
 match zaX P t with
 | some e=>hasT P e=true∧K e
 | none=>False
def vsrc (st:St) (sz:Nat) (x:SV) (K:Nat→List Value→Prop):Prop :=
 match x with
 | .c (.v y)=>Value.isA y∧(st.h.ldL y sz).isSome=true∧K (Value.L y) ((st.h.ldL y sz).getD [])
 | .c (.s r)=>match look r st.p with
  | some (.row _ sz' m ys)=>sz'=sz∧K m ys
  | _=>False
 | _=>False
def vdst (st:St) (e:TypeId) (sz:Nat) (x:SV) (K:Nat→List Value→List (Nat × PB)→Prop):Prop :=
 match x with
 | .c (.s r)=>match look r st.p with
  | some (.row e' sz' n xs)=>e'=e∧sz'=sz∧K n xs (zb2 r st.p)
  | _=>False
 | .c (.v (.slice none 0 0))=>K 0 [] st.p
 | _=>False
def zcd (P:Program) (st:St) (t:TypeId) (s x:SV) (K:TypeId→Nat→Nat→List Value→List (Nat × PB)→Prop):Prop :=
 zcc P t fun e=>zca P e fun z=>z.length=szT P e∧0 < szT P e ∧
  vsrc st (szT P e) x fun m ys=>vdst st e (szT P e) s fun n xs p=>(∀ u ∈ ys,u.oneCell'=true)∧n+m≤maxLen∧(n+m) * P.bytesOf e≤140737488355328 ∧
   K e (szT P e) (n+m) (xs ++ ys) p
def zce (P:Program) (st:St) (t:TypeId) (y:Value) (x:SV) (K:TypeId→Nat→Nat→List Value→Prop):Prop :=
 zcc P t fun e=>zca P e fun z=>z.length=szT P e∧0 < szT P e∧Value.isA y∧Value.C y=Value.L y∧(Value.A y).isSome=true∧(st.h.ldL y (szT P e)).isSome=true ∧
  vsrc st (szT P e) x fun m ys=>0 < m∧(∀ u ∈ ys,u.oneCell'=true)∧Value.L y+m≤maxLen∧(Value.L y+m) * P.bytesOf e≤140737488355328 ∧
   K e (szT P e) (Value.L y+m) ((st.h.ldL y (szT P e)).getD [] ++ ys)
def zcf:Value→Bool
 | .slice none 0 0=>true
 | _=>false
def zcg (P:Program) (st:St) (t:TypeId) (s x:SV) (K:TypeId→Nat→Nat→List Value→List (Nat × PB)→Prop):Prop :=
 match s with
 | .c (.v y)=>if zcf y=true then zcd P st t (.c (.v (.slice none 0 0))) x K else zce P st t y x fun e sz n xs=>K e sz n xs st.p
 | .c (.s r)=>zcd P st t (.c (.s r)) x K
 | _=>False
def zch:Operand→Bool
 | .const (.int _ 0)=>true
 | _=>false
def zci (P:Program) (st:St) (t:TypeId) (l c:Operand) (K:TypeId→Nat→Nat→List Value→Prop):Prop :=
 zcc P t fun e=>zca P e fun z=>z.length=szT P e∧getO st true l fun vl=>getO st true c fun vc =>
  (∃ k,Value.isI k vl.val)∧(∃ k,Value.isI k vc.val)∧0≤Value.I vc.val∧Value.I vc.val≤maxLen∧P.bytesOf e * (Value.I vc.val).toNat≤140737488355328 ∧
  if zch l=true then K e (szT P e) 0 [] else Value.I vl.val=Value.I vc.val∧K e (szT P e) (Value.I vc.val).toNat (madeCells z.toArray ((Value.I vc.val).toNat * szT P e)).toList
@[irreducible] def vfn (P:Program) (st:St) (g:Bool) (f:FuncId) (args:List Value) (K:Value→Hp→Prop):Prop :=
 ∃ R,(g=true→Ct P f args st.h R)∧((g=true∧∀ v h',st.h.le h'→R v h'→K v h')∨((∃ V,(∀ v h',R v h'→v=V∧h'=st.h)∧K V st.h)))
def zcj (P:Program) (st:St) (g:Bool) (vf:SV) (vs:List SV) (K:Value→Hp→Prop):Prop :=
 match vf with
 | .c (.v (.func (.func f) fs cs))=>(vs.all (·.plain))=true∧vfn P st g f (fs.toList ++ (vs.map (·.pv) ++ cs.toList)) K
 | _=>False
def zck (P:Program) (st:St) (o:Oper) (g:Bool) (c:Call) (callee:Callee) (K:St→Prop):Prop :=
 match callee with
 | .value f=>getO st g f fun vf=>zaC st g c.args.toList fun vs=>zcj P st g vf vs fun v h'=>K (St.mk (zb5 st.e o.dst g (.of v)) st.p h' st.nx)
 | .builtin .append=>g=true∧match c.args.toList,c.argTypes.toList with
  | [s,x],[t,t']=>t=t'∧getO st true s fun vs=>getO st true x fun vx =>
   zcg P st t vs vx fun e sz n xs p=>K (St.mk (zb5 st.e o.dst true (.c (.s st.nx))) ((st.nx,.row e sz n xs) :: p) st.h (st.nx+1))
  | _,_=>False
 | .builtin b=>zbO P st g b c.argTypes.toList c.args.toList fun sv=>K (st.put o.dst g sv)
 | _=>False
def zcl (P:Program) (st:St) (o:Oper) (t:TypeId) (n:Nat) (ps:Array (Nat × Operand)) (K:St→Prop):Prop :=
 zaC st true (ps.toList.map (·.2)) fun vs=>zcc P t fun e=>0 < szT P e∧zca P e fun z=>z.length=szT P e∧n * szT P e≤16777216∧ps.toList.length=n∧zcb (szT P e) 0 (ps.toList.map (·.1)) vs ∧
   ∀ b,st.h b=none→K (St.mk (zb5 st.e o.dst true (.c (.v (.slice (some ⟨b,0,none⟩) n n)))) st.p (st.h.ins b (.cells (vs.flatMap fun x=>x.cells.map (·.val)).toArray e (0,0))) st.nx)
def vopG (P:Program) (st:St) (o:Oper) (g:Bool) (op:Op) (K:St→Prop):Prop :=
 match op with
 | .alloc t=>g=true∧zca P t fun z=>K (St.mk (zb5 st.e o.dst true (.c (.p st.nx 0))) ((st.nx,.box t (z.map .v)) :: st.p) st.h (st.nx+1))
 | .box t x=>g=true∧getO st true x fun v=>(v.cells.all (·.okc st.p))=true∧K (St.mk (zb5 st.e o.dst true (.c (.p st.nx 0))) ((st.nx,.box t v.cells) :: st.p) st.h (st.nx+1))
 | .store t a x=>g=true∧o.dst=none∧getO st true a fun va=>getO st true x fun vx=>zb9 P st.p t va vx fun p=>K (St.mk st.e p st.h st.nx)
 | .buildSlice t n ps=>g=true∧zaC st true (ps.toList.map (·.2)) fun vs=>zcc P t fun e=>0 < szT P e∧zca P e fun z=>z.length=szT P e∧n * szT P e≤16777216∧ps.toList.length=n∧zcb (szT P e) 0 (ps.toList.map (·.1)) vs ∧
   K (St.mk (zb5 st.e o.dst true (.c (.s st.nx))) ((st.nx,.row e (szT P e) n (vs.flatMap fun x=>x.cells.map (·.val))) :: st.p) st.h (st.nx+1))
 | .makeSlice t l c=>g=true∧zci P st t l c fun e sz n xs=>K (St.mk (zb5 st.e o.dst true (.c (.s st.nx))) ((st.nx,.row e sz n xs) :: st.p) st.h (st.nx+1))
 | .call c=>zck P st o g c c.callee K
 | .move x=>vq P st g (.move x) fun sv=>K (st.put o.dst g sv)
 | .assign x=>vq P st g (.assign x) fun sv=>K (st.put o.dst g sv)
 | .pick c a b=>vq P st g (.pick c a b) fun sv=>K (st.put o.dst g sv)
 | .load t x=>vq P st g (.load t x) fun sv=>K (st.put o.dst g sv)
 | .nilCheck x=>vq P st g (.nilCheck x) fun sv=>K (st.put o.dst g sv)
 | .binOp b t x y t'=>vq P st g (.binOp b t x y t') fun sv=>K (st.put o.dst g sv)
 | .unOp b t x=>vq P st g (.unOp b t x) fun sv=>K (st.put o.dst g sv)
 | .convert s d x=>vq P st g (.convert s d x) fun sv=>K (st.put o.dst g sv)
 | .fieldAddr t x f=>vq P st g (.fieldAddr t x f) fun sv=>K (st.put o.dst g sv)
 | .field t x f=>vq P st g (.field t x f) fun sv=>K (st.put o.dst g sv)
 | .indexAddr t x i=>vq P st g (.indexAddr t x i) fun sv=>K (st.put o.dst g sv)
 | .index t x i=>vq P st g (.index t x i) fun sv=>K (st.put o.dst g sv)
 | .extract x i=>vq P st g (.extract x i) fun sv=>K (st.put o.dst g sv)
 | .slice t x l u m=>vq P st g (.slice t x l u m) fun sv=>K (st.put o.dst g sv)
 | .build t ps=>vq P st g (.build t ps) fun sv=>K (st.put o.dst g sv)
 | _=>False
def vop (P:Program) (ops:List Oper) (st:St) (o:Oper) (K:St→Prop):Prop :=
 vgd ops st o.guard fun g=>vopG P st o g o.op K
def vops (P:Program) (ops:List Oper):List Oper→St→(St→Prop)→Prop
 | [],st,K=>K st
 | o :: l,st,K=>vop P ops st o fun st'=>vops P ops l st' K
section
variable {P:Program} {W0:Base} {h0:Hp} {N:Nat} {st:St} {g:Bool}
theorem zcm:∀ (ops:List Oper) (j:Nat),zb6 ops j=((ops[j]?).bind (·.dst))
 | [],j=>by simp [zb6]
 | o :: l,0=>by simp [zb6]
 | o :: l,j+1=>by simp [zb6,zcm l j]
theorem wf_e (h:st.wf=true):zam st.nx st.e=true:=by simp only [St.wf,jJ] at h;exact h.1
theorem wf_p (h:st.wf=true):pbLt st.nx st.p=true:=by simp only [St.wf,jJ] at h;exact h.2
theorem zcn {ops:List Oper} {b:Option (Nat × Bool)} {o:Oper} {K:Bool→Prop} (i:o.guard=b) (h:vgd ops st b K) :
  ∃ g,K g∧∀ ρ a,FOk N ρ st.e a→Region.wanted o (yielded ops.toArray a.tmps)=g:=by
 cases b with
 | none=>exact ⟨true,h,fun ρ a _=>by simp [Region.wanted,i]⟩
 | some l =>
  obtain ⟨j,f⟩:=l
  simp only [vgd,onD] at h
  split at h
  ·rename_i d k
   unfold onG at h
   split at h
   ·rename_i c sv m
    refine ⟨_,h.2,fun ρ a n=>?_⟩
    have p:=n.2.2 d c sv m
    rw [zcm] at k
    simp only [Region.wanted,i,yielded,List.getElem?_toArray,k,yf,p]
    cases c with
    | false=>simp [undef]
    | true =>
     rw [if_pos rfl,zay (ρ:=ρ) (h.1 rfl)]
     cases Value.B sv.val <;> cases f <;> rfl
   ·cases h
  ·cases h
theorem Conc.put_ {ρ:Rho} {a:Act} {W:World} {d:Option Nat} {c:Bool} {sv:SV} {v:Value} {p:List (Nat × PB)} {h:Hp} {b:Nat}
  (f:FOk N ρ st.e a) (g:WOk W0 h0 ρ p h W) (i:pbLt b p=true) (j:zam b st.e=true) (l:∀ k,d=some k→k < N) (m:sv.lt b=true) (n:v=if c=true then sv.conc ρ else undef) :
  Conc W0 h0 N (St.mk (zb5 st.e d c sv) p h b) (a.put d v) W:=by
 cases d with
 | none=>exact ⟨ρ,f,g,by simp [St.wf,zb5,i,j]⟩
 | some d=>exact ⟨ρ,f.put (l d rfl) n,g,by simp [St.wf,zb5,i,j,zam,m]⟩
theorem zco {S:Sem Value} {v:Value} {W a:World} (h:S.run P W=.ok v a):(do pure (Next.value (← S)):Sem Next).run P W=.ok (.value v) a:=by
 simp [Sem.run_bind,h]
theorem zcp {ρ:Rho} {W:World} {p:List (Nat × PB)} {h:Hp} (d:WOk W0 h0 ρ p h W) {c:SC} (a:c.okc p=true):(c.conc ρ).oneCell'=true:=by
 cases c with
 | v x=>exact a
 | p r o=>rfl
 | s r =>
  simp only [SC.okc] at a
  split at a
  ·rename_i e f n xs g
   have i:W.ownsRow 0 e f (ρ r) n xs:=d.priv r _ g
   rcases i.2 with ⟨b,_⟩|⟨j,cap,cur,b,_⟩ <;> simp [b,Value.oneCell']
  ·cases a
theorem zcq {ρ:Rho} {W:World} {p:List (Nat × PB)} {h:Hp} (b:WOk W0 h0 ρ p h W) {x:SV} (d:(x.cells.all (·.okc p))=true):(x.conc ρ).cells=(x.cells.map (·.conc ρ)).toArray:=by
 rcases SV.cells_conc ρ x with h|⟨r,rfl⟩
 ·exact h
 ·have a:=zcp b (c:=.s r) (by simpa [SV.cells] using d)
  simp only [zaj] at a
  simp only [zak,zaj,SV.cells,wx,yD]
  cases e:ρ r <;> rw [e] at a <;> first|rfl|cases a
theorem Hp.ldL_spec {h:Hp} {y:Value} {c:Nat} (k:Value.isA y) (d:(h.ldL y c).isSome=true) :
  ∃ l,h.ldL y c=some l∧l.length=Value.L y * c∧(0 < Value.L y→0 < c→∃ b,Value.A y=some b)∧∀ W,Sees h W→∀ b,Value.A y=some b→∀ j u,l[j]?=some u→W.cell? (b.add j)=some u:=by
 obtain ⟨l,a⟩:=Option.isSome_iff_exists.1 d
 refine ⟨l,a,?_⟩
 unfold Hp.ldL at a
 split at a
 ·rename_i h0
  simp only [Option.some.injEq] at a
  subst a
  exact ⟨by simp [h0],fun f=>by omega,fun _ _ _ _ j u e=>by simp at e⟩
 ·cases g:Value.A y with
  | none=>rw [g] at a;cases a
  | some b =>
   rw [g] at a
   obtain ⟨f,h2⟩:=zac (show h.cellsAt b 0 _=some l from a)
   refine ⟨f,fun _ _=>⟨b,rfl⟩,fun W d m i j u e=>?_⟩
   simp only [Option.some.injEq] at i
   subst i
   exact zaa d (by simpa using h2 j u e)
theorem zcr {o:Oper} {a:Act} {W c:World} {v:Value} {b:Act→World→Prop} {Q:Exit→Act→World→Prop} (d:(execOp a.eval o).run P W=.ok (.value v) c) (h:b (a.put o.dst v) c):o.wp P a W b Q:=by
 unfold Oper.wp
 rw [d]
 exact h
theorem zcs {t:TypeId} {K:TypeId→Prop} (h:zcc P t K):∃ e,P.underlying t=some (.slice e)∧hasT P e=true∧K e:=by
 unfold zcc at h
 split at h
 ·rename_i e a;exact ⟨e,zbc a,h.1,h.2⟩
 ·cases h
theorem zct {t:TypeId} {K:List Value→Prop} (h:zca P t K):∃ z,zbF P t=some z∧K z:=by
 unfold zca at h
 split at h
 ·rename_i z a;exact ⟨z,a,h⟩
 ·cases h
theorem zcu {t:TypeId} {z:List Value} (h:zbF P t=some z):∃ (i:TypeInfo) (v:Value),P.info? t=some i∧i.zero=some v∧v.cells=z.toArray∧i.size=szT P t∧i.bytes=P.bytesOf t:=by
 unfold zbF at h
 obtain ⟨v,b,h2⟩:=Option.map_eq_some_iff.1 h
 obtain ⟨i,a,c⟩:=Option.bind_eq_some_iff.1 b
 exact ⟨i,v,a,c,by rw [← h2],by simp [szT,Program.cellsOf,a],by simp [Program.bytesOf,a]⟩
end
open Go Go.RowKit
section
variable {P:Program} {W0:Base} {h0:Hp} {N:Nat} {st:St} {g:Bool}
def Runs (P:Program) (W0:Base) (h0:Hp) (N:Nat) (o:Oper) (K:St→Prop) (_ρ:Rho) (a:Act) (W:World):Prop :=
 ∃ v W',(execOp a.eval o).run P W=.ok (.value v) W'∧∃ st',K st'∧Conc W0 h0 N st' (a.put o.dst v) W'
theorem SV.plain_cells {x:SV} (h:x.plain=true) (ρ:Rho):x.cells.map (·.conc ρ)=x.cells.map (·.val):=by
 apply wb
 intro c a
 cases x with
 | c x=>cases x with
  | v x=>cases x <;> simp [SV.cells] at a <;> first|(subst a;rfl)|(obtain ⟨y,_,rfl⟩:=a;rfl)
  | _=>cases h
 | g cs =>
  simp only [SV.plain,wY] at h
  have:=h c a
  cases c <;> first|rfl|cases this
theorem zcv {t:TypeId} {ρ:Rho} {W:World} {p:List (Nat × PB)} {h:Hp} {a:Nat} {cs:List SC} {z:Array Value} (d:WOk W0 h0 ρ p h W) (e:pbLt a p=true) (f:∀ c ∈ cs,c.lt a=true) (i:z=(cs.map (·.conc ρ)).toArray) :
  WOk W0 h0 (upd ρ a (.pointer (some ⟨W.heap.size,0,none⟩))) ((a,.box t cs) :: p) h (W.alloc (.cells z t)):=by
 refine d.new_ e (zbZ W _) (fun g b=>?_) ⟨W.heap.size,zbT _ _ _,jC _,?_⟩
 ·rcases b with b|⟨n,c,b⟩
  ·simpa using b.symm
  ·cases b
 ·rw [heap_alloc_new,i]
  have:cs.map (·.conc ρ)=cs.map (·.conc (upd ρ a (.pointer (some ⟨W.heap.size,0,none⟩)))):=wb fun c j=>SC.conc_congr (zbU _ _ _) (f c j)
  rw [this]
theorem zcw {d:Option Nat} {t:TypeId} {ρ:Rho} {a:Act} {W:World} {cs:List SC} {z:Array Value} (b:st.wf=true) (m:∀ g,d=some g→g < N) (n:FOk N ρ st.e a) (o:WOk W0 h0 ρ st.p st.h W)
  (i:∀ c ∈ cs,c.lt st.nx=true) (q:z=(cs.map (·.conc ρ)).toArray) :
  Conc W0 h0 N (St.mk (zb5 st.e d true (.c (.p st.nx 0))) ((st.nx,.box t cs) :: st.p) st.h (st.nx+1)) (a.put d (.pointer (some ⟨W.heap.size,0,none⟩))) (W.alloc (.cells z t)):=by
 have j:=zcv (t:=t) o (wf_p b) i q
 have k:=n.congr (wf_e b) (zbU ρ st.nx (.pointer (some ⟨W.heap.size,0,none⟩)))
 have f:st.nx≤st.nx+1:=Nat.le_succ _
 have l:cs.all (·.lt (st.nx+1))=true:=by
  simp only [wY]
  intro c r
  have:=i c r
  cases c <;> simp_all [SC.lt] <;> omega
 refine Conc.put_ (c:=true) (sv:=.c (.p st.nx 0)) (h:=st.h) k j (by simp [pbLt,PB.lt,l,zaq f (wf_p b)]) (zap f (wf_e b)) m (JG (Jc _)) ?_
 simp [zbT,blk]
theorem zcx {o:Oper} {t:TypeId} {K:St→Prop} {ρ:Rho} {a:Act} {W:World} (f:o.op=.alloc t) (g:st.wf=true) (i:∀ d,o.dst=some d→d < N) (j:FOk N ρ st.e a) (k:WOk W0 h0 ρ st.p st.h W)
  (h:zca P t fun z=>K (St.mk (zb5 st.e o.dst true (.c (.p st.nx 0))) ((st.nx,.box t (z.map .v)) :: st.p) st.h (st.nx+1))):Runs P W0 h0 N o K ρ a W:=by
 obtain ⟨z,l,h⟩:=zct h
 obtain ⟨v,m,b⟩:=zbL l
 refine ⟨.pointer (some ⟨W.heap.size,0,none⟩),W.alloc (.cells v.cells t),?_,_,h,zcw g i j k (fun c n=>?_) ?_⟩
 ·simp only [execOp,f]
  have:(Instr.alloc t true (.tuple #[])).run P W=.ok (.pointer (some ⟨W.heap.size,0,none⟩)) (W.alloc (.cells v.cells t)):=by
   simp [Instr.alloc,Sem.run_bind,b,newVar,newRow]
  simp [Sem.run_bind,this]
 ·obtain ⟨y,_,rfl⟩:=List.mem_map.1 n;rfl
 ·simp [yj,Function.comp_def,← m]
theorem zcy {o:Oper} {t:TypeId} {x:Operand} {K:St→Prop} {ρ:Rho} {a:Act} {W:World} (j:o.op=.box t x) (d:st.wf=true) (k:∀ f,o.dst=some f→f < N) (g:FOk N ρ st.e a) (i:WOk W0 h0 ρ st.p st.h W)
  (h:getO st true x fun v=>(v.cells.all (·.okc st.p))=true∧K (St.mk (zb5 st.e o.dst true (.c (.p st.nx 0))) ((st.nx,.box t v.cells) :: st.p) st.h (st.nx+1))):Runs P W0 h0 N o K ρ a W:=by
 obtain ⟨v,⟨l,h⟩,m,b⟩:=zaB (N:=N) d h
 replace b:=b rfl ρ a g
 refine ⟨.pointer (some ⟨W.heap.size,0,none⟩),W.alloc (.cells (v.conc ρ).cells t),?_,_,h,zcw d k g i (fun c n=>SV.cells_lt m c n) (zcq i l)⟩
 simp only [execOp,j,b]
 have:(Instr.box t (v.conc ρ)).run P W=.ok (.pointer (some ⟨W.heap.size,0,none⟩)) (W.alloc (.cells (v.conc ρ).cells t)):=by
  simp [Instr.box,Sem.run_bind,newVar,newRow]
 simp [Sem.run_bind,this]
theorem zcz {d:Option Nat} {ρ:Rho} {a:Act} {f:World} {e:TypeId} {g n:Nat} {xs:List Value} {v:Value} {p:List (Nat × PB)} (i:st.wf=true) (m:∀ j,d=some j→j < N) (o:FOk N ρ st.e a)
  (q:pbLt st.nx p=true) (k:WOk W0 h0 (upd ρ st.nx v) ((st.nx,.row e g n xs) :: p) st.h f) :
  Conc W0 h0 N (St.mk (zb5 st.e d true (.c (.s st.nx))) ((st.nx,.row e g n xs) :: p) st.h (st.nx+1)) (a.put d v) f:=by
 have l:=o.congr (wf_e i) (zbU ρ st.nx v)
 have b:st.nx≤st.nx+1:=Nat.le_succ _
 refine Conc.put_ (c:=true) (sv:=.c (.s st.nx)) (h:=st.h) l k (by simp [pbLt,PB.lt,zaq b q]) (zap b (wf_e i)) m (JG (Jc _)) ?_
 simp [zbT]
theorem zcA {v:Value} {k:Nat} (h:atV v k) {g:Option Nat} (b:v.ownBlock=g):g=some k∨∃ a,v=.pointer a:=by
 rcases h with h|⟨n,c,h⟩
 ·exact .inr ⟨_,h⟩
 ·subst h;left;rw [← b];rfl
theorem zcB {ρ:Rho} {W i:World} {e:TypeId} {l n:Nat} {xs:List Value} {v:Value} {p:List (Nat × PB)} {h:Hp} {c:Nat} (o:WOk W0 h0 ρ p h W) (q:pbLt c p=true)
  (d:i.ownsRow 0 e l v n xs) (f:W.grownBy i none) (g:v.ownBlock=some W.heap.size∨v.ownBlock=none) :
  WOk W0 h0 (upd ρ c v) ((c,.row e l n xs) :: p) h i:=by
 refine o.new_ q ⟨f.os,f.tape,f.output,f.size,fun k j=>f.block k j (by simp)⟩ (fun k j=>?_) ?_
 ·have m:∀ a,v ≠ .pointer a:=by
   rintro a rfl
   rcases d.2 with ⟨b,_⟩|⟨r,cap,cur,b,_⟩ <;> cases b
  rcases g with g|g
  ·rcases zcA j g with b|⟨a,b⟩
   ·simpa using b.symm
   ·exact (m a b).elim
  ·rcases zcA j g with b|⟨a,b⟩
   ·cases b
   ·exact (m a b).elim
 ·show i.ownsRow 0 e l (upd ρ c v c) n xs
  rw [zbT];exact d
theorem zcC {o:Oper} {t:TypeId} {l c:Operand} {K:St→Prop} {ρ:Rho} {a:Act} {W:World} (D:o.op=.makeSlice t l c) (d:st.wf=true) (F:∀ G,o.dst=some G→G < N) (j:FOk N ρ st.e a) (H:WOk W0 h0 ρ st.p st.h W)
  (h:zci P st t l c fun e sz n xs=>K (St.mk (zb5 st.e o.dst true (.c (.s st.nx))) ((st.nx,.row e sz n xs) :: st.p) st.h (st.nx+1))):Runs P W0 h0 N o K ρ a W:=by
 unfold zci at h
 obtain ⟨e,J,hT,h⟩:=zcs h
 obtain ⟨z,hz,h⟩:=zct h
 obtain ⟨ac,h⟩:=h
 obtain ⟨i,M,O,m,Q,q,r⟩:=zcu hz
 obtain ⟨vl,h,_,hl⟩:=zaB (N:=N) d h
 obtain ⟨vc,h,_,hc⟩:=zaB (N:=N) d h
 obtain ⟨⟨kl,R⟩,⟨X,Y⟩,Z,u,hb,h⟩:=h
 have el:=hl rfl ρ a j
 have w:=hc rfl ρ a j
 rw [zax R] at el
 rw [zax Y] at w
 obtain ⟨n,f⟩:=Int.eq_ofNat_of_zero_le Z
 rw [f,jW] at hb
 have g:n≤maxLen:=by rw [f] at u;exact_mod_cast u
 split at h
 ·rename_i h0
  obtain ⟨k,aa⟩:∃ k,a.eval l=.int k 0:=by
   unfold zch at h0
   split at h0
   ·exact ⟨_,rfl⟩
   ·cases h0
  obtain ⟨w',x,b,y⟩:=run_make_own (P:=P) W 0 t e i M (szT P e) J O m q k X n (by rw [r];omega) g (jC _)
  refine ⟨_,w',?_,_,h,zcz d F j (wf_p d) (zcB H (wf_p d) b y (.inl rfl))⟩
  simp only [execOp,D,aa,w,f]
  simp [Sem.run_bind,x]
 ·obtain ⟨ab,h⟩:=h
  obtain ⟨w',x,b,y⟩:=run_make_full (P:=P) W 0 t e i M (szT P e) J O m q kl X n (by rw [r];omega) g (jC _)
  rw [f,jW] at h
  rw [Q] at b
  refine ⟨_,w',?_,_,h,zcz d F j (wf_p d) (zcB H (wf_p d) b y (.inl rfl))⟩
  simp only [execOp,D,el,w,ab,f]
  simp [Sem.run_bind,x]
theorem zcD {t:TypeId} {W:World} {b o:Nat} {vs:List Value} {v:Value} {cur:Array Value} {e:TypeId} (c:hasT P t=true) (d:v.cells=vs.toArray) (f:vs.length=szT P t)
  (g:W.heap[b]?=some (.cells cur e (0,0))) (i:o+vs.length≤cur.size) (h:∀ u ∈ vs,u.oneCell'=true) :
  (Instr.storeAt t (.pointer (some ⟨b,o,none⟩)) v).run P W=.ok () (W.setRow b (zbG o vs cur.toList).toArray):=by
 have a:=run_storeCells_at P b o e vs 0 cur W g (by omega) h
 simp only [qJ,yx] at a
 simp [Instr.storeAt,Instr.sureAddr,storeVar,Sem.run_bind,za1 (P:=P) c,d,f,a,zbG]
theorem zcE {α β:Type} (f:α→β) (o:Nat) (new cs:List α):(zbG o new cs).map f=zbG o (new.map f) (cs.map f):=by
 simp [zbG,List.map_take,List.map_drop]
theorem zcF {α:Type} {o:Nat} {new cs:List α} (h:o+new.length≤cs.length):(zbG o new cs).length=cs.length:=by
 simp [zbG];omega
theorem zcG {α:Type} {o n:Nat} {new cs:List α} (h:o+new.length≤n) (e:n≤cs.length):(zbG o new cs).take n=zbG o new (cs.take n):=by
 have c:min o cs.length=o:=by omega
 have d:min o (min n cs.length)=o:=by omega
 apply List.ext_getElem?
 intro i
 simp only [zbG,yF,List.getElem?_append,ww,uF,c,d]
 by_cases b:i < n
 ·rw [if_pos b]
  by_cases h2:i < o
  ·rw [if_pos h2,if_pos h2,if_pos h2,if_pos h2,if_pos b]
  ·rw [if_neg h2,if_neg h2]
   by_cases a:i - o < new.length
   ·rw [if_pos a,if_pos a]
   ·rw [if_neg a,if_neg a,if_pos (by omega)]
 ·rw [if_neg b,if_neg (by omega),if_neg (by omega),if_neg (by omega)]
theorem zcH {o:Oper} {t:TypeId} {x y:Operand} {K:St→Prop} {ρ:Rho} {a:Act} {W:World} (ho:o.op=.store t x y) (hn:o.dst=none) (m:st.wf=true) (J:FOk N ρ st.e a) (f:WOk W0 h0 ρ st.p st.h W)
  (h:getO st true x fun M=>getO st true y fun i=>zb9 P st.p t M i fun p=>K (St.mk st.e p st.h st.nx)) :
  ∃ W',(execOp a.eval o).run P W=.ok .skip W'∧∃ ac,K ac∧Conc W0 h0 N ac (a.put o.dst undef) W':=by
 obtain ⟨M,h,_,O⟩:=zaB (N:=N) m h
 obtain ⟨i,h,ah,Q⟩:=zaB (N:=N) m h
 obtain ⟨ht,h⟩:=h
 replace O:=O rfl ρ a J
 replace Q:=Q rfl ρ a J
 rw [hn]
 cases M with
 | g cs=>exact h.elim
 | c M=>cases M with
 | v _=>exact h.elim
 | s _=>exact h.elim
 | p r off =>
  replace h:zb8 P st.p t r off (look r st.p) i fun p=>K (St.mk st.e p st.h st.nx):=h
  unfold zb8 at h
  split at h
  ·rename_i ty cs j
   obtain ⟨q,h2,G,h⟩:=h
   obtain ⟨b,R,X,w⟩:=f.priv r _ j
   have z:∀ u ∈ i.cells.map (·.conc ρ),u.oneCell'=true:=by
    intro u hu
    obtain ⟨c,k,rfl⟩:=List.mem_map.1 hu
    exact zcp f (List.all_eq_true.1 G c k)
   have Y:=zcD (P:=P) (t:=t) (o:=off) (vs:=i.cells.map (·.conc ρ)) ht (zcq f G) (by simpa using q) w (by simp [q];omega) z
   refine ⟨_,?_,_,h,ρ,by simpa [Act.put] using J,f.set_ (b:=.box ty (zbG off i.cells cs)) j (.inl R) (zbG off (i.cells.map (·.conc ρ)) (cs.map (·.conc ρ))).toArray ⟨b,R,X,?_⟩,?_⟩
   ·simp only [execOp,ho,O,Q,zak,zai,R,blk]
    simp [Sem.run_bind,Y]
   ·rw [setRow_heap W b _ _ _ _ w,zcE]
   ·simp only [St.wf,wf_e m,qp]
    refine zb1 ?_ (wf_p m)
    have l:=(zao (wf_p m) j).2
    simp only [PB.lt,wY] at l ⊢
    intro c k
    simp only [zbG,ye] at k
    rcases k with k|k|k
    ·exact l c (yB k)
    ·exact SV.cells_lt ah c k
    ·exact l c (yA k)
  ·rename_i e Z n xs j
   obtain ⟨q,h2,G,h⟩:=h
   have H:W.ownsRow 0 e Z (ρ r) n xs:=f.priv r _ j
   have aa:i.cells.map (·.conc ρ)=i.cells.map (·.val):=by
    apply wb
    intro c k
    have:=List.all_eq_true.1 G c k
    simp only [jJ] at this
    cases c <;> first|rfl|(simp [zb7] at this)
   have F:(i.conc ρ).cells=(i.cells.map (·.val)).toArray:=by
    rw [← aa]
    refine zcq f (List.all_eq_true.2 fun c k=>?_)
    have:=List.all_eq_true.1 G c k
    simp only [jJ] at this
    cases c <;> first|exact this.2|(simp [zb7] at this)
   have z:∀ u ∈ i.cells.map (·.val),u.oneCell'=true:=by
    intro u hu
    obtain ⟨c,k,rfl⟩:=List.mem_map.1 hu
    have:=List.all_eq_true.1 G c k
    simp only [jJ] at this
    exact this.2
   rcases H.2 with ⟨_,ai⟩|⟨b,cap,cur,hv,X,w,ae,aj,l,ab⟩
   ·have ak:xs.length=0:=by rw [H.1,ai];simp
    have al:szT P t=0:=by omega
    have ag:i.cells=[]:=uj (by omega)
    have ao:off=0:=by omega
    have am:xs=[]:=uj ak
    have an:(setP r (.row e Z n (zbG off (i.cells.map (·.val)) xs)) st.p)=setP r (.row e Z n xs) st.p:=by simp [zbG,ag,am]
    rw [an] at h
    refine ⟨W,?_,_,h,ρ,by simpa [Act.put] using J,?_,?_⟩
    ·simp only [execOp,ho,O,Q,zak,zai]
     have Y:(Instr.storeAt t (.pointer (some ⟨blk (ρ r),off,none⟩)) (i.conc ρ)).run P W=.ok () W:=by
      simp [Instr.storeAt,Instr.sureAddr,storeVar,Sem.run_bind,za1 (P:=P) ht,F,ag,al,storeCells]
     simp [Sem.run_bind,Y]
    ·refine ⟨f.below,f.sees,f.ext,f.new,fun r' b' D d=>?_,fun r' b' d=>?_,fun r' b' D d=>?_,fun r1 b1 r2 b2 D k1 k2=>?_⟩
     ·rw [zb0 j] at d
      split at d
      ·rename_i e;subst e;exact f.own _ _ D j
      ·exact f.own r' b' D d
     ·rw [zb0 j] at d
      split at d
      ·rename_i e;subst e;simp only [Option.some.injEq] at d;subst d;exact f.priv _ _ j
      ·exact f.priv r' b' d
     ·rw [zb0 j] at d
      split at d
      ·rename_i e;subst e;exact f.apart _ _ D j
      ·exact f.apart r' b' D d
     ·have m1:∃ b,look r1 st.p=some b:=by
       rw [zb0 j] at k1
       split at k1
       ·rename_i e;subst e;exact ⟨_,j⟩
       ·exact ⟨_,k1⟩
      have m2:∃ b,look r2 st.p=some b:=by
       rw [zb0 j] at k2
       split at k2
       ·rename_i e;subst e;exact ⟨_,j⟩
       ·exact ⟨_,k2⟩
      obtain ⟨c1,m1⟩:=m1
      obtain ⟨c2,m2⟩:=m2
      exact f.distinct r1 c1 r2 c2 D m1 m2
    ·simp only [St.wf,wf_e m,qp]
     exact zb1 rfl (wf_p m)
   ·have ap:xs.length≤cur.size:=by rw [H.1,l];exact wP _ ae
    have Y:=zcD (P:=P) (t:=t) (o:=off) (vs:=i.cells.map (·.val)) ht F (by simpa using q) w (by simp [q];omega) z
    refine ⟨_,?_,_,h,ρ,by simpa [Act.put] using J,f.set_ (b:=.row e Z n (zbG off (i.cells.map (·.val)) xs)) j (.inr ⟨n,cap,hv⟩) (zbG off (i.cells.map (·.val)) cur.toList).toArray ?_,?_⟩
    ·simp only [execOp,ho,O,Q,zak,zai,hv,blk]
     simp [Sem.run_bind,Y]
    ·show (W.setRow b _).ownsRow 0 e Z (ρ r) n _
     refine ⟨by rw [zcF (by simp [q];omega)];exact H.1,.inr ⟨b,cap,_,hv,X,setRow_heap W b _ _ _ _ w,ae,aj,?_,?_⟩⟩
     ·simp only [qK]
      rw [zcF (by simp [q];omega)]
      simpa using l
     ·simp only
      rw [zcG (by simp [q,← H.1];omega) (by simp [← H.1];omega),ab]
    ·simp only [St.wf,wf_e m,qp]
     exact zb1 rfl (wf_p m)
  ·cases h
end
end Go.SL
