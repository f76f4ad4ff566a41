/- Plain theorems about the model. -/
import Derived.Deep.Quiet
import Derived.Maps.AppendAt
import Derived.WalkKit
set_option linter.unusedVariables false
set_option linter.unusedSimpArgs false
set_option maxRecDepth 4000
open Nat renaming reduceAdd → jq, reduceMul → jj, reduceBEq → jy, reduceLeDiff → jv, reduceLT → jk, reduceEqDiff → jx
open Bool renaming or_eq_false_iff → jp, or_eq_true → jQ, and_eq_true → jJ
open Int renaming toNat_natCast → jW, natCast_nonneg → jY
namespace Go.SL
open Go Go.RowKit
abbrev Hp:=Nat→Option Obj
def Hp.le (h h':Hp):Prop:=∀ b o,h b=some o→h' b=some o
def Sees (h:Hp) (W:World):Prop:=∀ b o,h b=some o→W.heap[b]?=some o
theorem Hp.le_refl (h:Hp):h.le h:=fun _ _ x=>x
theorem Hp.le_trans {a b c:Hp} (h:a.le b) (k:b.le c):a.le c:=fun x o y=>k x o (h x o y)
def Hp.cell (h:Hp) (a:Addr):Option Value :=
 match h a.block with
 | some (.cells c _ _)=>if a.spot.isSome then none else c[a.off]?
 | _=>none
theorem zaa {h:Hp} {W:World} {a:Addr} {v:Value} (hs:Sees h W) (hc:h.cell a=some v):W.cell? a=some v:=by
 unfold Hp.cell at hc
 split at hc
 ·rename_i c _ _ hb
  simp only [World.cell?,hs _ _ hb]
  exact hc
 ·cases hc
theorem zab {h h':Hp} {a:Addr} {v:Value} (hs:h.le h') (hc:h.cell a=some v):h'.cell a=some v:=by
 unfold Hp.cell at hc ⊢
 split at hc
 ·rename_i c _ _ hb
  simp only [hs _ _ hb]
  exact hc
 ·cases hc
def Hp.cellsAt (h:Hp) (a:Addr):Nat→Nat→Option (List Value)
 | _,0=>some []
 | i,n+1=>match h.cell (a.add i),h.cellsAt a (i+1) n with
  | some v,some l=>some (v :: l)
  | _,_=>none
def Hp.lds (h:Hp) (q:Option Addr) (n:Nat):Option (List Value) :=
 match q with
 | some a=>h.cellsAt a 0 n
 | none=>none
def Hp.ldD (h:Hp) (q:Option Addr) (n:Nat):List Value:=(h.lds q n).getD []
theorem zac {h:Hp} {a:Addr}:∀ {n i:Nat} {l:List Value},h.cellsAt a i n=some l→l.length=n∧∀ j v,l[j]?=some v→h.cell (a.add (i+j))=some v
 | 0,i,l,e=>by simp only [Hp.cellsAt,Option.some.injEq] at e;subst e;simp
 | n+1,i,l,e=>by
  simp only [Hp.cellsAt] at e
  split at e
  ·rename_i v l' hv hl
   simp only [Option.some.injEq] at e
   subst e
   obtain ⟨h1,h2⟩:=zac hl
   refine ⟨by simp [h1],fun j u hu=>?_⟩
   cases j with
   | zero=>simp at hu;subst hu;simpa using hv
   | succ j=>simp at hu;have:=h2 j u hu;rwa [show i+(j+1)=i+1+j by omega]
  ·cases e
theorem zad {h:Hp} {a:Addr}:∀ {n i:Nat} {l:List Value},l.length=n→(∀ j v,l[j]?=some v→h.cell (a.add (i+j))=some v)→h.cellsAt a i n=some l
 | 0,i,l,e,_=>by rw [List.length_eq_zero_iff] at e;subst e;rfl
 | n+1,i,[],e,_=>by cases e
 | n+1,i,v :: l,e,hc=>by
  have h0:=hc 0 v rfl
  have h1:=zad (h:=h) (a:=a) (n:=n) (i:=i+1) (l:=l) (by simpa using e) (fun j u hu=>by have:=hc (j+1) u (by simpa using hu);rwa [show i+1+j=i+(j+1) by omega])
  simp only [Nat.add_zero] at h0
  simp [Hp.cellsAt,h0,h1]
theorem zae {h h':Hp} (hs:h.le h') {a:Addr} {n i:Nat} {l:List Value} (e:h.cellsAt a i n=some l):h'.cellsAt a i n=some l :=
 let ⟨h1,h2⟩:=zac e
 zad h1 fun j v hv=>zab hs (h2 j v hv)
theorem zaf {h h':Hp} (hs:h.le h') {q:Option Addr} {n:Nat} {l:List Value} (e:h.lds q n=some l):h'.lds q n=some l:=by
 cases q with
 | none=>cases e
 | some a=>exact zae hs e
theorem zag {h:Hp} {q:Option Addr} {n:Nat} {l:List Value} (e:h.lds q n=some l):h.ldD q n=l:=by simp [Hp.ldD,e]
def szT (P:Program) (t:TypeId):Nat:=P.cellsOf t
def aggT (P:Program) (t:TypeId):Bool:=match P.underlying t with|some (.struct _)|some (.array ..)=>true|_=>false
inductive SC where
 | v (x:Value)
 | p (r o:Nat)
 | s (r:Nat)
inductive SV where
 | c (x:SC)
 | g (cs:List SC)
def blk:Value→Nat
 | .pointer (some a)=>a.block
 | .slice (some a) _ _=>a.block
 | _=>0
abbrev Rho:=Nat→Value
def SC.conc (ρ:Rho):SC→Value
 | .v x=>x
 | .p r o=>.pointer (some ⟨blk (ρ r),o,none⟩)
 | .s r=>ρ r
def SV.conc (ρ:Rho):SV→Value
 | .c x=>x.conc ρ
 | .g cs=>.agg (cs.map (·.conc ρ)).toArray
@[simp] theorem zah (ρ:Rho) (x:Value):(SC.v x).conc ρ=x:=rfl
@[simp] theorem zai (ρ:Rho) (r o:Nat):(SC.p r o).conc ρ=.pointer (some ⟨blk (ρ r),o,none⟩):=rfl
@[simp] theorem zaj (ρ:Rho) (r:Nat):(SC.s r).conc ρ=ρ r:=rfl
@[simp] theorem zak (ρ:Rho) (x:SC):(SV.c x).conc ρ=x.conc ρ:=rfl
@[simp] theorem zal (ρ:Rho) (cs:List SC):(SV.g cs).conc ρ=.agg (cs.map (·.conc ρ)).toArray:=rfl
def SV.of:Value→SV
 | .agg cs=>.g (cs.toList.map .v)
 | v=>.c (.v v)
theorem SV.conc_of (ρ:Rho) (v:Value):(SV.of v).conc ρ=v:=by
 unfold SV.of
 split
 ·simp [SV.conc,SC.conc,List.map_map,Function.comp_def]
 ·rfl
inductive PB where
 | box (ty:TypeId) (cs:List SC)
 | row (e:TypeId) (sz n:Nat) (xs:List Value)
def look {α:Type} (t:Nat):List (Nat × α)→Option α
 | []=>none
 | (k,x) :: l=>if k=t then some x else look t l
abbrev Env:=List (Nat × Bool × SV)
structure St where
 e:Env
 p:List (Nat × PB)
 h:Hp
 nx:Nat
def SC.lt (n:Nat):SC→Bool
 | .v _=>true
 | .p r _=>r < n
 | .s r=>r < n
def SV.lt (n:Nat):SV→Bool
 | .c x=>x.lt n
 | .g cs=>cs.all (·.lt n)
def PB.lt (n:Nat):PB→Bool
 | .box _ cs=>cs.all (·.lt n)
 | .row ..=>true
def zam (n:Nat):Env→Bool
 | []=>true
 | (_,_,sv) :: l=>sv.lt n && zam n l
def pbLt (n:Nat):List (Nat × PB)→Bool
 | []=>true
 | (r,b) :: l=>decide (r < n) && b.lt n && pbLt n l
def St.wf (st:St):Bool:=zam st.nx st.e && pbLt st.nx st.p
theorem SC.conc_congr {n:Nat} {ρ ρ':Rho} (hρ:∀ r,r < n→ρ r=ρ' r) {x:SC} (hx:x.lt n=true):x.conc ρ=x.conc ρ':=by
 cases x with
 | v x=>rfl
 | p r o=>simp only [SC.lt,decide_eq_true_eq] at hx;simp [SC.conc,hρ r hx]
 | s r=>simp only [SC.lt,decide_eq_true_eq] at hx;simp [SC.conc,hρ r hx]
theorem SV.conc_congr {n:Nat} {ρ ρ':Rho} (hρ:∀ r,r < n→ρ r=ρ' r) {x:SV} (hx:x.lt n=true):x.conc ρ=x.conc ρ':=by
 cases x with
 | c x=>exact SC.conc_congr hρ hx
 | g cs =>
  simp only [SV.lt,List.all_eq_true] at hx
  simp only [SV.conc]
  congr 2
  exact List.map_congr_left fun y hy=>SC.conc_congr hρ (hx y hy)
theorem zan {n t:Nat}:∀ {e:Env} {c:Bool} {sv:SV},zam n e=true→look t e=some (c,sv)→sv.lt n=true
 | [],_,_,_,h=>by cases h
 | (k,c',sv') :: l,c,sv,hw,h=>by
  simp only [zam,jJ] at hw
  simp only [look] at h
  split at h
  ·simp only [Option.some.injEq,Prod.mk.injEq] at h;rw [← h.2];exact hw.1
  ·exact zan hw.2 h
theorem zao {n t:Nat}:∀ {p:List (Nat × PB)} {b:PB},pbLt n p=true→look t p=some b→t < n∧b.lt n=true
 | [],_,_,h=>by cases h
 | (k,b') :: l,b,hw,h=>by
  simp only [pbLt,jJ,decide_eq_true_eq] at hw
  simp only [look] at h
  split at h
  ·rename_i hk;simp only [Option.some.injEq] at h;rw [← h,← hk];exact ⟨hw.1.1,hw.1.2⟩
  ·exact zao hw.2 h
theorem zap {n m:Nat} (hnm:n≤m):∀ {e:Env},zam n e=true→zam m e=true
 | [],_=>rfl
 | (_,_,sv) :: l,h=>by
  simp only [zam,jJ] at h ⊢
  refine ⟨?_,zap hnm h.2⟩
  have h1:=h.1
  have one:∀ x:SC,x.lt n=true→x.lt m=true:=fun x hx=>by cases x <;> simp_all [SC.lt] <;> omega
  cases sv with
  | c x=>exact one x h1
  | g cs=>simp only [SV.lt,List.all_eq_true] at h1 ⊢;exact fun x hx=>one x (h1 x hx)
theorem zaq {n m:Nat} (hnm:n≤m):∀ {p:List (Nat × PB)},pbLt n p=true→pbLt m p=true
 | [],_=>rfl
 | (r,b) :: l,h=>by
  simp only [pbLt,jJ,decide_eq_true_eq] at h ⊢
  refine ⟨⟨by omega,?_⟩,zaq hnm h.2⟩
  have h1:=h.1.2
  have one:∀ x:SC,x.lt n=true→x.lt m=true:=fun x hx=>by cases x <;> simp_all [SC.lt] <;> omega
  cases b with
  | box ty cs=>simp only [PB.lt,List.all_eq_true] at h1 ⊢;exact fun x hx=>one x (h1 x hx)
  | row=>rfl
def PB.ok (base:Nat) (ρ:Rho) (r:Nat) (W:World):PB→Prop
 | .box ty cs=>∃ g,ρ r=.pointer (some ⟨g,0,none⟩)∧base≤g∧W.heap[g]?=some (.cells (cs.map (·.conc ρ)).toArray ty (0,0))
 | .row e sz n xs=>W.ownsRow base e sz (ρ r) n xs
def PB.at (ρ:Rho) (r:Nat) (g:Nat):Prop:=ρ r=.pointer (some ⟨g,0,none⟩)∨∃ n c,ρ r=.slice (some ⟨g,0,none⟩) n c
structure Base where
 w:World
 own:Nat→Prop
 big:∀ g,w.heap.size≤g→own g
structure BelowO (B:Base) (W:World):Prop where
 os:W.os=B.w.os
 tape:W.tape=B.w.tape
 output:W.output=B.w.output
 size:B.w.heap.size≤W.heap.size
 block:∀ k,¬ B.own k→W.heap[k]?=B.w.heap[k]?
theorem BelowO.trans {B:Base} {W W':World} (h:BelowO B W) (k:Below B.w.heap.size W W'):BelowO B W' :=
 ⟨k.os.trans h.os,k.tape.trans h.tape,k.output.trans h.output,Nat.le_trans h.size k.size,fun i hi=>(k.block i (by
  rcases Nat.lt_or_ge i B.w.heap.size with hh|hh
  ·exact hh
  ·exact (hi (B.big i hh)).elim)).trans (h.block i hi)⟩
theorem BelowO.step {B:Base} {W W':World} (h:BelowO B W) (o:W'.os=W.os) (t:W'.tape=W.tape) (u:W'.output=W.output) (s:W.heap.size≤W'.heap.size) (k:∀ i,¬ B.own i→i < W.heap.size→W'.heap[i]?=W.heap[i]?):BelowO B W' :=
 ⟨o.trans h.os,t.trans h.tape,u.trans h.output,Nat.le_trans h.size s,fun i hi=>(k i hi (by
  rcases Nat.lt_or_ge i W.heap.size with hh|hh
  ·exact hh
  ·exact (hi (B.big i (Nat.le_trans h.size hh))).elim)).trans (h.block i hi)⟩
structure WOk (W0:Base) (h0:Hp) (ρ:Rho) (p:List (Nat × PB)) (h:Hp) (W:World):Prop where
 below:BelowO W0 W
 sees:Sees h W
 ext:∀ b o,h0 b=some o→¬ W0.own b→h b=some o
 new:∀ b o,h b=some o→h0 b=none→W0.own b
 own:∀ r b g,look r p=some b→PB.at ρ r g→W0.own g
 priv:∀ r b,look r p=some b→b.ok 0 ρ r W
 apart:∀ r b g,look r p=some b→PB.at ρ r g→h g=none
 distinct:∀ r b r' b' g,look r p=some b→look r' p=some b'→PB.at ρ r g→PB.at ρ r' g→r=r'
def FOk (N:Nat) (ρ:Rho) (e:Env) (a:Act):Prop :=
 a.defers=[]∧a.tmps.size=N∧∀ t c sv,look t e=some (c,sv)→a.tmps[t]?=some (if c=true then sv.conc ρ else undef)
def Conc (W0:Base) (h0:Hp) (N:Nat) (st:St) (a:Act) (W:World):Prop :=
 ∃ ρ,FOk N ρ st.e a∧WOk W0 h0 ρ st.p st.h W∧st.wf=true
open Go Go.RowKit
def Value.I:Value→Int|.int _ n=>n|_=>0
def Value.isI (k:IntKind):Value→Prop|.int k' _=>k'=k|_=>False
def Value.B:Value→Bool|.bool b=>b|_=>false
def Value.isB:Value→Prop|.bool _=>True|_=>False
def Value.S:Value→ByteArray|.string s=>s|_=>ByteArray.empty
def Value.isS:Value→Prop|.string _=>True|_=>False
def Value.P:Value→Option Addr|.pointer a=>a|_=>none
def Value.isP:Value→Prop|.pointer (some _)=>True|_=>False
def Value.A:Value→Option Addr|.slice a _ _=>a|_=>none
def Value.L:Value→Nat|.slice _ n _=>n|_=>0
def Value.C:Value→Nat|.slice _ _ c=>c|_=>0
def Value.isA:Value→Prop|.slice _ _ _=>True|_=>False
def Value.T:Value→List Value|.tuple vs=>vs.toList|_=>[]
def Value.isT (n:Nat):Value→Prop|.tuple vs=>n < vs.size|_=>False
theorem zar {k:IntKind} {v:Value} (h:Value.isI k v):v=.int k (Value.I v):=by cases v <;> simp_all [Value.isI,Value.I]
theorem zas {v:Value} (h:Value.isB v):v=.bool (Value.B v):=by cases v <;> simp_all [Value.isB,Value.B]
theorem zat {v:Value} (h:Value.isS v):v=.string (Value.S v):=by cases v <;> simp_all [Value.isS,Value.S]
theorem zau {v:Value} (h:Value.isP v):∃ a,v=.pointer (some a)∧Value.P v=some a:=by
 cases v with
 | pointer a=>cases a <;> simp_all [Value.isP,Value.P]
 | _=>cases h
theorem zav {v:Value} (h:Value.isA v):v=.slice (Value.A v) (Value.L v) (Value.C v):=by cases v <;> simp_all [Value.isA,Value.A,Value.L,Value.C]
theorem zaw {n:Nat} {v:Value} (h:Value.isT n v):∃ vs:Array Value,v=.tuple vs∧vs[n]?=some ((Value.T v).getD n undef):=by
 cases v with
 | tuple vs =>
  simp only [Value.isT] at h
  exact ⟨vs,rfl,by simp [Value.T,h]⟩
 | _=>cases h
def SC.val:SC→Value|.v x=>x|_=>undef
def SV.val:SV→Value|.c x=>x.val|.g _=>undef
def SV.cells:SV→List SC|.g cs=>cs|.c (.v (.agg cs))=>cs.toList.map .v|.c x=>[x]
theorem zax {ρ:Rho} {k:IntKind} {x:SV} (h:Value.isI k x.val):x.conc ρ=.int k (Value.I x.val):=by
 cases x with
 | c x=>cases x with
  | v x=>exact zar h
  | _=>cases h
 | g=>cases h
theorem zay {ρ:Rho} {x:SV} (h:Value.isB x.val):x.conc ρ=.bool (Value.B x.val):=by
 cases x with
 | c x=>cases x with
  | v x=>exact zas h
  | _=>cases h
 | g=>cases h
theorem zaz {ρ:Rho} {x:SV} (h:Value.isS x.val):x.conc ρ=.string (Value.S x.val):=by
 cases x with
 | c x=>cases x with
  | v x=>exact zat h
  | _=>cases h
 | g=>cases h
theorem zaA {ρ:Rho} {n:Nat} {x:SV} (h:Value.isT n x.val):∃ vs:Array Value,x.conc ρ=.tuple vs∧vs[n]?=some ((Value.T x.val).getD n undef):=by
 cases x with
 | c x=>cases x with
  | v x=>exact zaw h
  | _=>cases h
 | g=>cases h
theorem SV.of_lt (n:Nat) (v:Value):(SV.of v).lt n=true:=by
 unfold SV.of
 split <;> simp [SV.lt,SC.lt]
theorem SV.cells_conc (ρ:Rho) (x:SV):(x.conc ρ).cells=(x.cells.map (·.conc ρ)).toArray∨∃ r,x=.c (.s r):=by
 cases x with
 | c x=>cases x with
  | v x =>
   left
   cases x <;> simp [SV.conc,SC.conc,SV.cells,Value.cells,List.map_map,Function.comp_def]
  | p r o=>left;simp [SV.conc,SC.conc,SV.cells,Value.cells]
  | s r=>exact .inr ⟨r,rfl⟩
 | g cs=>left;simp [SV.conc,SV.cells,Value.cells]
theorem SV.cells_lt {n:Nat} {x:SV} (h:x.lt n=true):∀ y ∈ x.cells,y.lt n=true:=by
 cases x with
 | c x=>cases x with
  | v x=>cases x <;> simp [SV.cells,SC.lt]
  | _=>simpa [SV.cells,SV.lt] using h
 | g cs=>simpa [SV.cells,SV.lt] using h
def getO (st:St) (g:Bool) (x:Operand) (K:SV→Prop):Prop :=
 match x with
 | .const v=>K (.of v)
 | .tmp t=>match look t st.e with
  | some (c,sv)=>(g=true→c=true)∧K sv
  | none=>False
 | .func f=>K (.c (.v (.func (.func f) #[] #[])))
 | .global _=>False
section
variable {P:Program} {W0:Base} {h0:Hp} {N:Nat} {st:St} {g:Bool} {ρ:Rho} {a:Act} {W:World}
theorem zaB {x:Operand} {K:SV→Prop} (hw:st.wf=true) (h:getO st g x K) :
  ∃ sv,K sv∧sv.lt st.nx=true∧(g=true→∀ ρ a,FOk N ρ st.e a→a.eval x=sv.conc ρ):=by
 cases x with
 | const v=>exact ⟨_,h,SV.of_lt _ _,fun _ ρ a _=>(SV.conc_of ρ v).symm⟩
 | tmp t =>
  simp only [getO] at h
  split at h
  ·rename_i c sv hl
   refine ⟨sv,h.2,?_,fun hg ρ a hf=>?_⟩
   ·simp only [St.wf,jJ] at hw
    exact zan hw.1 hl
   ·have:=hf.2.2 t c sv hl
    simp [Act.eval,Array.getD_eq_getD_getElem?,this,h.1 hg]
  ·cases h
 | func f=>exact ⟨_,h,rfl,fun _ ρ a _=>rfl⟩
 | global g=>cases h
def zaC (st:St) (g:Bool):List Operand→(List SV→Prop)→Prop
 | [],K=>K []
 | x :: xs,K=>getO st g x fun v=>zaC st g xs fun vs=>K (v :: vs)
theorem zaD {xs:List Operand}:∀ {K:List SV→Prop},st.wf=true→zaC st g xs K →
  ∃ svs,K svs∧svs.length=xs.length∧(∀ sv ∈ svs,sv.lt st.nx=true)∧(g=true→∀ ρ a,FOk N ρ st.e a→xs.map a.eval=svs.map (·.conc ρ)):=by
 induction xs with
 | nil=>intro K _ h;exact ⟨[],h,rfl,by simp,fun _ _ _ _=>rfl⟩
 | cons x xs ih =>
  intro K hw h
  obtain ⟨v,h1,l1,e1⟩:=zaB (N:=N) hw h
  obtain ⟨vs,h2,l2,m2,e2⟩:=ih hw h1
  refine ⟨v :: vs,h2,by simp [l2],by simpa using ⟨l1,m2⟩,fun hg ρ a hf=>?_⟩
  simp [e1 hg ρ a hf,e2 hg ρ a hf]
end
def zaE (op:BinOp) (k:IntKind) (a b:Int):Int :=
 match op with
 | .and=>k.wrap (BitVec.ofInt k.bits a &&& BitVec.ofInt k.bits b).toNat
 | .or=>k.wrap (BitVec.ofInt k.bits a ||| BitVec.ofInt k.bits b).toNat
 | .xor=>k.wrap (BitVec.ofInt k.bits a ^^^ BitVec.ofInt k.bits b).toNat
 | _=>k.wrap (BitVec.ofInt k.bits a &&& ~~~(BitVec.ofInt k.bits b)).toNat
def zaF (g:Bool) (op:BinOp) (k:IntKind) (a b:Int) (K:Value→Prop):Prop :=
 match op with
 | .add=>K (.int k (k.wrap (a+b)))
 | .sub=>K (.int k (k.wrap (a - b)))
 | .mul=>K (.int k (k.wrap (a * b)))
 | .quo=>(g=true→b ≠ 0)∧K (.int k (k.wrap (a.tdiv b)))
 | .rem=>(g=true→b ≠ 0)∧K (.int k (a.tmod b))
 | .and|.or|.xor|.andNot=>K (.int k (zaE op k a b))
 | .eql=>K (.bool (a == b))
 | .neq=>K (.bool (a != b))
 | .lss=>K (.bool (decide (a < b)))
 | .leq=>K (.bool (decide (a≤b)))
 | .gtr=>K (.bool (decide (b < a)))
 | .geq=>K (.bool (decide (b≤a)))
 | _=>False
theorem zaG {P:Program} {g:Bool} {op:BinOp} {k:IntKind} {a b:Int} {K:Value→Prop} (h:zaF g op k a b K) :
  ∃ v,K v∧(∀ x,v ≠ .agg x)∧(g=true→∀ t W,(binOp op t (.int k a) (.int k b)).run P W=.ok v W):=by
 cases op <;> simp only [zaF] at h <;> first
  | exact ⟨_,h,by simp,fun _ t W=>by simp [binOp,Op.intArith,Op.intCmp,Op.intBits,zaE]⟩
  | exact ⟨_,h.2,by simp,fun hg t W=>by simp [binOp,Op.intDiv,h.1 hg]⟩
  | exact h.elim
def veq:Value→Value→Bool
 | .int _ a,.int _ b=>a == b
 | .bool a,.bool b=>a == b
 | .string a,.string b=>a.toList == b.toList
 | _,_=>false
def veqs:List Value→List Value→Bool
 | [],[]=>true
 | a :: as,b :: bs=>veq a b && veqs as bs
 | _,_=>false
def zaH (P:Program) (t:TypeId) (v:Value):Prop :=
 match P.underlying t with
 | some (.int k)=>Value.isI k v
 | some .bool=>Value.isB v
 | some .string=>Value.isS v
 | _=>False
def zaI (P:Program):Nat→List Field→List Value→Prop
 | _,[],[]=>True
 | i,f :: fs,v :: vs=>f.offset=i∧f.name ≠ "_"∧zaH P f.type v∧zaI P (i+1) fs vs
 | _,_,_=>False
def zaJ:BinOp→Bool
 | .shl=>true
 | .shr=>true
 | _=>false
def zaK (op:BinOp) (k:IntKind) (a b:Int) (K:Value→Prop):Prop :=
 match op with
 | .shl=>K (.int k (k.wrap (a * 2 ^ (min b.toNat k.bits))))
 | .shr=>K (.int k (a.fdiv (2 ^ (min b.toNat k.bits))))
 | _=>False
def zaL (op:BinOp) (a b:Bool) (K:Value→Prop):Prop :=
 match op with
 | .eql=>K (.bool (a == b))
 | .neq=>K (.bool (!(a == b)))
 | _=>False
def zaM (g:Bool) (op:BinOp) (a b:ByteArray) (K:Value→Prop):Prop :=
 match op with
 | .eql=>K (.bool (a.toList == b.toList))
 | .neq=>K (.bool (!(a.toList == b.toList)))
 | .add=>(g=true→a.size+b.size≤9223372036854775807)∧K (.string (a ++ b))
 | _=>False
def zaN (op:BinOp) (a b:List Value) (K:Value→Prop):Prop :=
 match op with
 | .eql=>K (.bool (veqs a b))
 | .neq=>K (.bool (!veqs a b))
 | _=>False
def zaO (P:Program) (g:Bool) (op:BinOp) (t:TypeId) (x y:SV) (K:Value→Prop):TypeDesc→Prop
 | .int k=>if zaJ op=true then (g=true→Value.isI k x.val∧(∃ k',Value.isI k' y.val)∧0≤Value.I y.val)∧zaK op k (Value.I x.val) (Value.I y.val) K
  else (g=true→Value.isI k x.val∧Value.isI k y.val)∧zaF g op k (Value.I x.val) (Value.I y.val) K
 | .bool=>(g=true→Value.isB x.val∧Value.isB y.val)∧zaL op (Value.B x.val) (Value.B y.val) K
 | .string=>(g=true→Value.isS x.val∧Value.isS y.val)∧zaM g op (Value.S x.val) (Value.S y.val) K
 | .struct fs=>P.stoodInHeld t=false∧P.eqGuardType P.depth t=false∧fs.toList.length ≠ 1 ∧
   (g=true→zaI P 0 fs.toList (x.cells.map (·.val))∧zaI P 0 fs.toList (y.cells.map (·.val)))∧zaN op (x.cells.map (·.val)) (y.cells.map (·.val)) K
 | _=>False
def vbin (P:Program) (g:Bool) (op:BinOp) (t:TypeId) (x y:SV) (K:Value→Prop):Prop :=
 zaO P g op t x y K ((P.underlying t).getD .invalid)
theorem zaP {P:Program} {W:World} {d:Nat} {t:TypeId} {a b:Value} (ha:zaH P t a) (hb:zaH P t b) :
  (Op.equalIn (d+1) t a b).run P W=.ok (veq a b) W:=by
 unfold zaH at ha hb
 split at ha
 ·rename_i k hu
  simp only [hu] at hb
  rw [zar ha,zar hb,run_equalIn_int (h:=hu)];rfl
 ·rename_i hu
  simp only [hu] at hb
  rw [zas ha,zas hb,run_equalIn_bool' (h:=hu)];rfl
 ·rename_i hu
  simp only [hu] at hb
  rw [zat ha,zat hb,run_equalIn_string (h:=hu)];rfl
 ·cases ha
theorem zaQ {P:Program} {W:World} {t:TypeId} {v:Value} {cs:Array Value} {o:Nat} (h:zaH P t v) (hc:cs[o]?=some v) :
  (part t cs o).run P W=.ok v W:=by
 unfold zaH at h
 have hagg:(isAgg t).run P W=.ok false W:=by
  split at h <;> rename_i hu <;> first|cases h|simp [isAgg,run_underlying hu]
 simp [part,hagg,hc]
theorem zaR {P:Program} {W:World} {d:Nat}:∀ (fs:List Field) (i:Nat) (xs ys:List Value) (X Y:Array Value),zaI P i fs xs→zaI P i fs ys →
  (∀ j,xs[j]?=X[i+j]?)→(∀ j,ys[j]?=Y[i+j]?)→(Op.eqFields (d+1) X Y fs).run P W=.ok (veqs xs ys) W
 | [],i,[],[],X,Y,_,_,_,_=>by simp [Op.eqFields,veqs]
 | [],i,_ :: _,_,X,Y,h,_,_,_=>by simp [zaI] at h
 | [],i,[],_ :: _,X,Y,_,h,_,_=>by simp [zaI] at h
 | f :: fs,i,[],_,X,Y,h,_,_,_=>by simp [zaI] at h
 | f :: fs,i,_ :: _,[],X,Y,_,h,_,_=>by simp [zaI] at h
 | f :: fs,i,x :: xs,y :: ys,X,Y,hx,hy,hX,hY=>by
  obtain ⟨o1,n1,l1,r1⟩:=hx
  obtain ⟨o2,n2,l2,r2⟩:=hy
  have p1:=zaQ (W:=W) (cs:=X) (o:=f.offset) l1 (by rw [o1];have:=hX 0;simpa using this.symm)
  have p2:=zaQ (W:=W) (cs:=Y) (o:=f.offset) l2 (by rw [o1];have:=hY 0;simpa using this.symm)
  have ih:=zaR (W:=W) (d:=d) fs (i+1) xs ys X Y r1 r2 (fun j=>by have:=hX (j+1);simpa [Nat.add_assoc,Nat.add_comm 1 j] using this) (fun j=>by have:=hY (j+1);simpa [Nat.add_assoc,Nat.add_comm 1 j] using this)
  simp only [Op.eqFields,n1,ne_eq,not_false_eq_true,if_true,Sem.run_bind,p1,p2,Result.andThen_ok,zaP l1 l2,veqs]
  cases hv:veq x y
  ·simp
  ·simpa using ih
theorem zaS {P:Program} {ρ:Rho}:∀ (fs:List Field) (i:Nat) (cs:List SC),zaI P i fs (cs.map (·.val))→cs.map (·.conc ρ)=cs.map (·.val)
 | [],_,[],_=>rfl
 | [],_,_ :: _,h=>by simp [zaI] at h
 | _ :: _,_,[],h=>by simp [zaI] at h
 | f :: fs,i,c :: cs,h=>by
  simp only [List.map_cons,zaI] at h
  have ih:=zaS (ρ:=ρ) fs (i+1) cs h.2.2.2
  simp only [List.map_cons,ih]
  congr 1
  cases c with
  | v x=>rfl
  | _ =>
   have:=h.2.2.1
   simp [zaH,SC.val,undef] at this
   split at this <;> simp_all [Value.isI,Value.isB,Value.isS]
theorem zaT {P:Program} {ρ:Rho} {fs:List Field} {x:SV} (h:zaI P 0 fs (x.cells.map (·.val))) (h1:∀ r,x ≠ .c (.s r)) (hf:fs.length ≠ 1∨(∃ cs,x=.g cs)) :
  x.conc ρ=.agg (x.cells.map (·.val)).toArray:=by
 cases x with
 | g cs =>
  simp only [SV.cells] at h ⊢
  simp only [SV.conc,zaS (ρ:=ρ) fs 0 cs h]
 | c x =>
  rcases hf with hf|⟨cs,hc⟩
  ·cases x with
   | s r=>exact (h1 r rfl).elim
   | p r o =>
    exfalso
    match fs,h with
    | [],h=>simp [SV.cells,zaI] at h
    | [f],h=>exact hf rfl
    | f :: g :: fs,h=>simp [SV.cells,zaI] at h
   | v x =>
    cases x with
    | agg cs=>simp [SV.cells,SV.conc,SC.conc,SC.val,List.map_map,Function.comp_def]
    | _ =>
     exfalso
     match fs,h with
     | [],h=>simp [SV.cells,zaI] at h
     | [f],h=>exact hf rfl
     | f :: g :: fs,h=>simp [SV.cells,zaI] at h
  ·cases hc
theorem zaU {P:Program} {W:World} {op:BinOp} {t:TypeId} {x y:Operand} {a b:Value} (h:(∀ xs,a ≠ .agg xs)∧a ≠ .nilIface∨P.eqGuardType P.depth t=false∧a ≠ .nilIface) :
  (eqGuard op t x y a b).run P W=.ok () W:=by
 unfold eqGuard
 split <;> simp only [Bool.not_true,Bool.not_false,Bool.false_eq_true,if_false,if_true]
 ·split
  ·rcases h with h|h <;> exact (h.2 rfl).elim
  ·rcases h with h|h
   ·exact (h.1 _ rfl).elim
   ·simp [Sem.run_bind,run_program,h.1]
  ·rfl
 ·split
  ·rcases h with h|h <;> exact (h.2 rfl).elim
  ·rcases h with h|h
   ·exact (h.1 _ rfl).elim
   ·simp [Sem.run_bind,run_program,h.1]
  ·rfl
 ·rfl
theorem zaV {P:Program} {g:Bool} {op:BinOp} {t:TypeId} {x y:SV} {K:Value→Prop} (h:vbin P g op t x y K) :
  ∃ v,K v∧(∀ z,v ≠ .agg z)∧(g=true→∀ ρ W xo yo,(do eqGuard op t xo yo (x.conc ρ) (y.conc ρ);binOp op t (x.conc ρ) (y.conc ρ):Sem Value).run P W=.ok v W):=by
 unfold vbin at h
 cases hu:P.underlying t with
 | none=>rw [hu] at h;exact h.elim
 | some d =>
 rw [hu] at h
 simp only [Option.getD_some] at h
 cases d <;> simp only [zaO] at h <;> first|exact h.elim|skip
 case bool =>
  have e1:∀ a b W,(Op.equal t (.bool a) (.bool b)).run P W=.ok (a == b) W:=fun a b W=>run_equalIn_bool' W 9999 t a b hu
  cases op <;> simp only [zaL] at h <;> first|exact h.2.elim|skip
  all_goals
   refine ⟨_,h.2,by simp,fun hg ρ W xo yo=>?_⟩
   rw [zay (ρ:=ρ) (h.1 hg).1,zay (ρ:=ρ) (h.1 hg).2]
   simp [Sem.run_bind,zaU (P:=P) (W:=W) (t:=t) (x:=xo) (y:=yo) (a:=.bool (Value.B x.val)) (b:=.bool (Value.B y.val)) (.inl ⟨by simp,by simp⟩),binOp,e1]
 case string =>
  cases op <;> simp only [zaM] at h <;> first|exact h.2.elim|skip
  case add =>
   refine ⟨_,h.2.2,by simp,fun hg ρ W xo yo=>?_⟩
   have h3:=h.2.1 hg
   rw [zaz (ρ:=ρ) (h.1 hg).1,zaz (ρ:=ρ) (h.1 hg).2]
   have h4:¬ (((Value.S x.val).size+(Value.S y.val).size:Nat):Int) > IntKind.i64.max:=by
    have:IntKind.i64.max=9223372036854775807:=by decide
    rw [this];omega
   simp only [Sem.run_bind,zaU (P:=P) (W:=W) (t:=t) (x:=xo) (y:=yo) (a:=.string (Value.S x.val)) (b:=.string (Value.S y.val)) (.inl ⟨by simp,by simp⟩),binOp,Op.stringOp,Result.andThen_ok,h4,if_false,Sem.run_pure]
  all_goals
   refine ⟨_,h.2,by simp,fun hg ρ W xo yo=>?_⟩
   rw [zaz (ρ:=ρ) (h.1 hg).1,zaz (ρ:=ρ) (h.1 hg).2]
   simp [zaU (P:=P) (W:=W) (t:=t) (x:=xo) (y:=yo) (a:=.string (Value.S x.val)) (b:=.string (Value.S y.val)) (.inl ⟨by simp,by simp⟩),binOp,Op.stringOp]
 case int k =>
  by_cases hs:zaJ op=true
  ·rw [if_pos hs] at h
   have key:∀ v,(∀ k' W,0≤Value.I y.val→(Op.shift op k (Value.I x.val) k' (Value.I y.val)).run P W=.ok v W)→g=true→∀ ρ W xo yo,
     (do eqGuard op t xo yo (x.conc ρ) (y.conc ρ);binOp op t (x.conc ρ) (y.conc ρ):Sem Value).run P W=.ok v W:=by
    intro v hr hg ρ W xo yo
    obtain ⟨a1,⟨k',a2⟩,a3⟩:=h.1 hg
    rw [zax (ρ:=ρ) a1,zax (ρ:=ρ) a2]
    cases op <;> simp only [zaJ] at hs <;> first|cases hs|skip
    all_goals simp [Sem.run_bind,zaU (P:=P) (W:=W) (t:=t) (x:=xo) (y:=yo) (a:=.int k (Value.I x.val)) (b:=.int k' (Value.I y.val)) (.inl ⟨by simp,by simp⟩),binOp,hr k' W a3]
   cases op <;> simp only [zaJ] at hs <;> first|cases hs|skip
   all_goals
    simp only [zaK] at h
    exact ⟨_,h.2,by simp,key _ fun k' W h0=>by simp [Op.shift,Int.not_lt.2 h0]⟩
  ·rw [if_neg hs] at h
   obtain ⟨v,hk,hn,hr⟩:=zaG (P:=P) h.2
   refine ⟨v,hk,hn,fun hg ρ W xo yo=>?_⟩
   rw [zax (ρ:=ρ) (h.1 hg).1,zax (ρ:=ρ) (h.1 hg).2]
   simp [Sem.run_bind,zaU (P:=P) (W:=W) (op:=op) (t:=t) (x:=xo) (y:=yo) (a:=.int k (Value.I x.val)) (b:=.int k (Value.I y.val)) (.inl ⟨by simp,by simp⟩),hr hg]
 case struct fs =>
  obtain ⟨hp,hgt,hlen,hl,hk⟩:=h
  have fsO:P.fieldsOf t=fs:=by simp [Program.fieldsOf,hu]
  have conv:∀ z:SV,zaI P 0 fs.toList (z.cells.map (·.val))→∀ ρ,z.conc ρ=.agg (z.cells.map (·.val)).toArray:=by
   intro z hz ρ
   refine zaT hz ?_ (.inl hlen)
   rintro r rfl
   match fs,hlen,hz with
   | ⟨[]⟩,_,hz=>simp [SV.cells,zaI] at hz
   | ⟨[f]⟩,hlen,_=>exact hlen rfl
   | ⟨f :: g :: fs⟩,_,hz=>simp [SV.cells,zaI] at hz
  have e1:g=true→∀ W,(Op.equal t (.agg (x.cells.map (·.val)).toArray) (.agg (y.cells.map (·.val)).toArray)).run P W=.ok (veqs (x.cells.map (·.val)) (y.cells.map (·.val))) W:=by
   intro hg W
   show (Op.equalIn (9999+1) t _ _).run P W=_
   rw [run_equalIn_struct W 9999 t _ _ (by rw [fsO];exact hu) hp,fsO]
   exact zaR (d:=9998) fs.toList 0 _ _ _ _ (hl hg).1 (hl hg).2 (fun j=>by simp) (fun j=>by simp)
  cases op <;> simp only [zaN] at hk <;> first|exact hk.elim|skip
  all_goals
   refine ⟨_,hk,by simp,fun hg ρ W xo yo=>?_⟩
   rw [conv x (hl hg).1 ρ,conv y (hl hg).2 ρ]
   simp [Sem.run_bind,zaU (P:=P) (W:=W) (t:=t) (x:=xo) (y:=yo) (a:=.agg (x.cells.map (·.val)).toArray) (b:=.agg (y.cells.map (·.val)).toArray) (.inr ⟨hgt,by simp⟩),binOp,e1 hg]
open Go Go.RowKit
def zaW (P:Program) (t:TypeId) (f:Nat):Option (Nat × TypeId) :=
 match P.underlying t with
 | some (.struct fs)=>(fs[f]?).map fun x=>(x.offset,x.type)
 | _=>none
def zaX (P:Program) (t:TypeId):Option TypeId:=match P.underlying t with|some (.slice e)=>some e|_=>none
def arrT (P:Program) (t:TypeId):Option (Nat × TypeId):=match P.underlying t with|some (.array n e)=>some (n,e)|_=>none
def strT (P:Program) (t:TypeId):Bool:=match P.underlying t with|some .string=>true|_=>false
def intT (P:Program) (t:TypeId):Option IntKind:=match P.underlying t with|some (.int k)=>some k|_=>none
theorem zaY (n:Nat) (xs:List Value):(SV.g (xs.map .v)).lt n=true:=by
 simp only [SV.lt,List.all_map,List.all_eq_true,Function.comp_def]
 exact fun _ _=>rfl
def RunsTo (P:Program) (W0:Base) (h0:Hp) (st:St) (S:Rho→Sem Value) (v:Rho→Value):Prop :=
 ∀ ρ W,WOk W0 h0 ρ st.p st.h W→(S ρ).run P W=.ok (v ρ) W
section
variable {P:Program} {W0:Base} {h0:Hp} {st:St} {g:Bool}
theorem RunsTo.mk {S:Rho→Sem Value} {v:Rho→Value} (h:∀ ρ W,WOk W0 h0 ρ st.p st.h W→(S ρ).run P W=.ok (v ρ) W):RunsTo P W0 h0 st S v:=h
theorem zaZ {t:TypeId} {W:World} (ht:(P.underlying t).isSome=true):(isAgg t).run P W=.ok (aggT P t) W:=by
 cases hu:P.underlying t with
 | none=>rw [hu] at ht;cases ht
 | some d=>cases d <;> simp [isAgg,run_underlying hu,aggT,hu]
theorem za0 {t:TypeId} (ht:(P.underlying t).isSome=true):∃ i,P.info? t=some i:=by
 unfold Program.underlying at ht
 cases h:P.info? t with
 | none=>rw [h] at ht;cases ht
 | some i=>exact ⟨i,rfl⟩
theorem za1 {t:TypeId} {W:World} (ht:(P.underlying t).isSome=true):(sizeOf t).run P W=.ok (szT P t) W:=by
 obtain ⟨i,hi⟩:=za0 ht
 simp [sizeOf,typeInfo,hi,szT,Program.cellsOf]
def cutC (o n:Nat) (cs:List SC):List SC:=(cs.drop o).take n
def hasT (P:Program) (t:TypeId):Bool:=(P.underlying t).isSome
def za2 (P:Program) (st:St) (g:Bool) (t:TypeId) (x:SV) (K:SV→Prop):Prop :=
 hasT P t=true ∧
 match x with
 | .c (.p r o)=>match look r st.p with
  | some (.box _ cs)=>if aggT P t=true then (g=true→o+szT P t≤cs.length)∧K (.g (cutC o (szT P t) cs))
   else (g=true→o < cs.length)∧K (.c (cs.getD o (.v undef)))
  | some (.row _ _ _ xs)=>if aggT P t=true then (g=true→o+szT P t≤xs.length)∧K (.g (((xs.drop o).take (szT P t)).map .v))
   else (g=true→o < xs.length)∧K (.c (.v (xs.getD o undef)))
  | none=>False
 | .c (.v y)=>if aggT P t=true then (g=true→Value.isP y∧(st.h.lds (Value.P y) (szT P t)).isSome=true)∧K (.g ((st.h.ldD (Value.P y) (szT P t)).map .v))
   else (g=true→Value.isP y∧(st.h.lds (Value.P y) 1).isSome=true)∧K (.c (.v ((st.h.ldD (Value.P y) 1).getD 0 undef)))
 | _=>False
theorem za3 {t:TypeId} {W:World} {a:Addr} {cs:List Value} (ht:hasT P t=true)
  (h:∀ j v,cs[j]?=some v→W.cell? (a.add j)=some v) (hn:cs.length=if aggT P t=true then szT P t else 1) :
  (loadVar t a).run P W=.ok (if aggT P t=true then .agg cs.toArray else cs.getD 0 undef) W:=by
 by_cases hg:aggT P t=true
 ·simp only [hg,if_true] at hn ⊢
  have hl:=run_loadCells_list (P:=P) W a cs h
  rw [hn] at hl
  simp [loadVar,zaZ ht,hg,za1 ht,hl]
 ·simp only [hg,if_false,Bool.false_eq_true] at hn ⊢
  match cs,hn with
  | [v],_ =>
   have:=h 0 v rfl
   simp only [Addr.add,if_true] at this
   simp [loadVar,zaZ ht,hg,load,Sem.run,this]
theorem za4 (b o j:Nat):(⟨b,o,none⟩:Addr).add j=⟨b,o+j,none⟩:=by
 unfold Addr.add
 split
 ·rename_i h;subst h;rfl
 ·rfl
theorem za5 {ρ:Rho} {W:World} {r:Nat} {ty:TypeId} {cs:List SC} {base:Nat} (h:PB.ok base ρ r W (.box ty cs)) :
  ∀ j c,cs[j]?=some c→W.cell? ⟨blk (ρ r),j,none⟩=some (c.conc ρ):=by
 intro j c hj
 obtain ⟨g,hg,_,hh⟩:=h
 rw [hg]
 simp only [blk]
 rw [cell_of_row W g j _ ty (0,0) hh]
 simp [hj]
theorem za6 {ρ:Rho} {W:World} {r:Nat} {e:TypeId} {sz n:Nat} {xs:List Value} {base:Nat} (h:PB.ok base ρ r W (.row e sz n xs)) :
  ∀ j v,xs[j]?=some v→W.cell? ⟨blk (ρ r),j,none⟩=some v:=by
 intro j v hj
 have hh:W.ownsRow base e sz (ρ r) n xs:=h
 rcases hh.2 with ⟨_,h0⟩|⟨g,cap,cur,hv,_⟩
 ·have:=hh.1
  subst h0
  simp at this
  subst this
  simp at hj
 ·have:=hh.cells (g:=g) (by rw [hv];rfl) j v hj
  rw [hv]
  simp only [blk]
  rwa [za4,Nat.zero_add] at this
theorem za7 {t:TypeId} {x:SV} {K:SV→Prop} (hw:st.wf=true) (h:za2 P st g t x K) :
  ∃ sv,K sv∧sv.lt st.nx=true∧(g=true→RunsTo P W0 h0 st (fun ρ=>Instr.loadAt t (x.conc ρ)) (fun ρ=>sv.conc ρ)):=by
 obtain ⟨ht,h⟩:=h
 have hpl:pbLt st.nx st.p=true:=by simp only [St.wf,jJ] at hw;exact hw.2
 split at h
 ·rename_i r o
  split at h
  ·rename_i ty cs hl
   have hlt:cs.all (·.lt st.nx)=true:=(zao hpl hl).2
   simp only [List.all_eq_true] at hlt
   split at h
   ·rename_i hg
    refine ⟨_,h.2,?_,fun hgt ρ W hW=>?_⟩
    ·simp only [SV.lt,List.all_eq_true,cutC]
     exact fun y hy=>hlt y (List.mem_of_mem_drop (List.mem_of_mem_take hy))
    ·have hb:=hW.priv r _ hl
     have hc:=za5 hb
     have hlen:=h.1 hgt
     have:=za3 (P:=P) (t:=t) (W:=W) (a:=⟨blk (ρ r),o,none⟩) (cs:=(cutC o (szT P t) cs).map (·.conc ρ)) ht (fun j v hj=>by
      rw [za4]
      simp only [cutC,List.getElem?_map,Option.map_eq_some_iff] at hj
      obtain ⟨c,hc1,rfl⟩:=hj
      refine hc _ _ ?_
      rw [List.getElem?_take] at hc1
      split at hc1
      ·rwa [List.getElem?_drop] at hc1
      ·cases hc1) (by simp [hg,cutC];omega)
     simp only [Instr.loadAt,zak,zal,zah,zai,zaj,Instr.sureAddr]
     simpa [hg] using this
   ·rename_i hg
    refine ⟨_,h.2,?_,fun hgt ρ W hW=>?_⟩
    ·show SC.lt _ _=true
     by_cases ho:o < cs.length
     ·rw [List.getD_eq_getElem?_getD,List.getElem?_eq_getElem ho];exact hlt _ (List.getElem_mem ho)
     ·rw [List.getD_eq_getElem?_getD,List.getElem?_eq_none (by omega)];rfl
    ·have hb:=hW.priv r _ hl
     have hc:=za5 hb
     have hlen:=h.1 hgt
     have:=za3 (P:=P) (t:=t) (W:=W) (a:=⟨blk (ρ r),o,none⟩) (cs:=[(cs.getD o (.v undef)).conc ρ]) ht (fun j v hj=>by
      rw [za4]
      match j,hj with
      | 0,hj =>
       simp only [List.getElem?_cons_zero,Option.some.injEq] at hj
       subst hj
       exact hc _ _ (by rw [List.getD_eq_getElem?_getD,Nat.add_zero,List.getElem?_eq_getElem hlen];rfl)
      | j+1,hj=>simp at hj) (by simp [hg])
     simp only [Instr.loadAt,zak,zal,zah,zai,zaj,Instr.sureAddr]
     simpa [hg] using this
  ·rename_i e sz n xs hl
   split at h
   ·rename_i hg
    refine ⟨_,h.2,zaY _ _,fun hgt ρ W hW=>?_⟩
    have hc:=za6 (hW.priv r _ hl)
    have hlen:=h.1 hgt
    have:=za3 (P:=P) (t:=t) (W:=W) (a:=⟨blk (ρ r),o,none⟩) (cs:=(xs.drop o).take (szT P t)) ht (fun j v hj=>by
     rw [za4]
     refine hc _ _ ?_
     rw [List.getElem?_take] at hj
     split at hj
     ·rwa [List.getElem?_drop] at hj
     ·cases hj) (by simp [hg];omega)
    simp only [Instr.loadAt,zak,zal,zah,zai,zaj,Instr.sureAddr,List.map_map,Function.comp_def,List.map_id']
    simpa [hg] using this
   ·rename_i hg
    refine ⟨_,h.2,rfl,fun hgt ρ W hW=>?_⟩
    have hc:=za6 (hW.priv r _ hl)
    have hlen:=h.1 hgt
    have:=za3 (P:=P) (t:=t) (W:=W) (a:=⟨blk (ρ r),o,none⟩) (cs:=[xs.getD o undef]) ht (fun j v hj=>by
     rw [za4]
     match j,hj with
     | 0,hj =>
      simp only [List.getElem?_cons_zero,Option.some.injEq] at hj
      subst hj
      exact hc _ _ (by rw [List.getD_eq_getElem?_getD,Nat.add_zero,List.getElem?_eq_getElem hlen];rfl)
     | j+1,hj=>simp at hj) (by simp [hg])
    simp only [Instr.loadAt,zak,zal,zah,zai,zaj,Instr.sureAddr]
    simpa [hg] using this
  ·cases h
 ·rename_i y
  have key:∀ n,(g=true→Value.isP y∧(st.h.lds (Value.P y) n).isSome=true)→g=true→∃ a,y=.pointer (some a)∧∃ l,st.h.lds (Value.P y) n=some l∧l.length=n∧∀ ρ W,WOk W0 h0 ρ st.p st.h W→∀ j v,l[j]?=some v→W.cell? (a.add j)=some v:=by
   intro n hh hgt
   obtain ⟨h1,h2⟩:=hh hgt
   obtain ⟨a,rfl,ha⟩:=zau h1
   rw [ha] at h2
   obtain ⟨l,hl⟩:=Option.isSome_iff_exists.1 h2
   have hs:=zac (show st.h.cellsAt a 0 n=some l from hl)
   exact ⟨a,rfl,l,by rw [ha];exact hl,hs.1,fun ρ W hW j v hj=>zaa hW.sees (by simpa using hs.2 j v hj)⟩
  split at h
  ·rename_i hg
   refine ⟨_,h.2,zaY _ _,fun hgt ρ W hW=>?_⟩
   obtain ⟨a,rfl,l,hl,hlen,hc⟩:=key _ h.1 hgt
   have:=za3 (P:=P) (t:=t) (W:=W) (a:=a) (cs:=l) ht (hc ρ W hW) (by simp [hg,hlen])
   simp only [Instr.loadAt,zak,zal,zah,zai,zaj,Instr.sureAddr,List.map_map,Function.comp_def,List.map_id',zag hl]
   simpa [hg] using this
  ·rename_i hg
   refine ⟨_,h.2,rfl,fun hgt ρ W hW=>?_⟩
   obtain ⟨a,rfl,l,hl,hlen,hc⟩:=key _ h.1 hgt
   have:=za3 (P:=P) (t:=t) (W:=W) (a:=a) (cs:=l) ht (hc ρ W hW) (by simp [hg,hlen])
   simp only [Instr.loadAt,zak,zal,zah,zai,zaj,Instr.sureAddr,zag hl]
   simpa [hg] using this
 ·cases h
def za8 (P:Program) (g:Bool) (t:TypeId) (x:SV) (f:Nat) (K:SV→Prop):Prop :=
 match zaW P t f with
 | none=>False
 | some (off,ft)=>hasT P ft=true∧szT P ft ≠ 0 ∧
  match x with
  | .c (.p r o)=>K (.c (.p r (o+off)))
  | .c (.v y)=>(g=true→Value.isP y)∧K (.c (.v (.pointer ((Value.P y).map (·.add off)))))
  | _=>False
theorem za9 {t:TypeId} {f off:Nat} {ft:TypeId} (h:zaW P t f=some (off,ft)):∃ fs fd,P.underlying t=some (.struct fs)∧fs[f]?=some fd∧fd.offset=off∧fd.type=ft:=by
 unfold zaW at h
 split at h
 ·rename_i fs hu
  obtain ⟨fd,h1,h2⟩:=Option.map_eq_some_iff.1 h
  simp only [Prod.mk.injEq] at h2
  exact ⟨fs,fd,hu,h1,h2.1,h2.2⟩
 ·cases h
theorem zba {t:TypeId} {x:SV} {f:Nat} {K:SV→Prop} (hx:x.lt st.nx=true) (h:za8 P g t x f K) :
  ∃ sv,K sv∧sv.lt st.nx=true∧(g=true→RunsTo P W0 h0 st (fun ρ=>Instr.fieldAt t (x.conc ρ) f) (fun ρ=>sv.conc ρ)):=by
 unfold za8 at h
 split at h
 ·cases h
 ·rename_i off ft hf
  obtain ⟨hT,hs,h⟩:=h
  obtain ⟨fs,fd,hu,hfd,rfl,rfl⟩:=za9 hf
  have run:∀ (a:Addr) (W:World),(Instr.fieldAt t (.pointer (some a)) f).run P W=.ok (.pointer (some (a.add fd.offset))) W:=by
   intro a W
   simp [Instr.fieldAt,run_underlying hu,hfd,Instr.sureAddr,fieldPlace,za1 hT,hs]
  split at h
  ·rename_i r o
   refine ⟨_,h,hx,fun _ ρ W hW=>?_⟩
   simp only [zak,zal,zah,zai,zaj,run,za4]
  ·rename_i y
   refine ⟨_,h.2,rfl,fun hgt ρ W hW=>?_⟩
   obtain ⟨a,rfl,ha⟩:=zau (h.1 hgt)
   simp only [zak,zal,zah,zai,zaj,run,ha,Option.map_some]
  ·cases h
def zbb (P:Program) (st:St) (g:Bool) (t:TypeId) (x i:SV) (K:SV→Prop):Prop :=
 (g=true→∃ k,Value.isI k i.val) ∧
 match zaX P t with
 | some e=>hasT P e=true ∧
  match x with
  | .c (.s r)=>match look r st.p with
   | some (.row _ _ n _)=>(g=true→0≤Value.I i.val∧Value.I i.val < n)∧K (.c (.p r ((Value.I i.val).toNat * szT P e)))
   | _=>False
  | .c (.v y)=>(g=true→Value.isA y∧0≤Value.I i.val∧Value.I i.val < Value.L y∧(Value.A y).isSome=true)∧K (.c (.v (.pointer ((Value.A y).map (·.add ((Value.I i.val).toNat * szT P e))))))
  | _=>False
 | none=>match arrT P t with
  | some (n,e)=>hasT P e=true ∧
   match x with
   | .c (.p r o)=>(g=true→0≤Value.I i.val∧Value.I i.val < n)∧K (.c (.p r (o+(Value.I i.val).toNat * szT P e)))
   | .c (.v y)=>(g=true→Value.isP y∧0≤Value.I i.val∧Value.I i.val < n)∧K (.c (.v (.pointer ((Value.P y).map (·.add ((Value.I i.val).toNat * szT P e))))))
   | _=>False
  | none=>False
theorem zbc {t e:TypeId} (h:zaX P t=some e):P.underlying t=some (.slice e):=by
 unfold zaX at h
 split at h
 ·rename_i hu;simp only [Option.some.injEq] at h;rw [hu,h]
 ·cases h
theorem zbd {t e:TypeId} {n:Nat} (h:arrT P t=some (n,e)):P.underlying t=some (.array n e):=by
 unfold arrT at h
 split at h
 ·rename_i hu;simp only [Option.some.injEq,Prod.mk.injEq] at h;rw [hu,h.1,h.2]
 ·cases h
theorem zbe {t:TypeId} {x i:SV} {K:SV→Prop} (hx:x.lt st.nx=true) (h:zbb P st g t x i K) :
  ∃ sv,K sv∧sv.lt st.nx=true∧(g=true→RunsTo P W0 h0 st (fun ρ=>Instr.indexAt t (x.conc ρ) (i.conc ρ)) (fun ρ=>sv.conc ρ)):=by
 obtain ⟨hi,h⟩:=h
 split at h
 ·rename_i e he
  have hu:=zbc he
  obtain ⟨hT,h⟩:=h
  have run:∀ (a:Addr) (k:IntKind) (n:Nat) (cap:Nat) (ix:Int) (W:World),0≤ix→ix < n→(Instr.indexAt t (.slice (some a) n cap) (.int k ix)).run P W=.ok (.pointer (some (a.add (ix.toNat * szT P e)))) W:=by
   intro a k n cap ix W h1 h2
   simp [Instr.indexAt,asIntOf,run_underlying hu,h1,h2,za1 hT]
  split at h
  ·rename_i r
   split at h
   ·rename_i e' sz n xs hl
    refine ⟨_,h.2,hx,fun hgt ρ W hW=>?_⟩
    obtain ⟨k,hk⟩:=hi hgt
    obtain ⟨b1,b2⟩:=h.1 hgt
    have hb:W.ownsRow 0 e' sz (ρ r) n xs:=hW.priv r _ hl
    rcases hb.2 with ⟨_,h0⟩|⟨gg,cap,cur,hv,_⟩
    ·omega
    ·simp only [zak,zal,zah,zai,zaj]
     rw [show i.conc ρ=.int k (Value.I i.val) from zax hk,hv,run _ _ _ _ _ _ b1 b2]
     simp only [blk,za4,Nat.zero_add]
   ·cases h
  ·rename_i y
   refine ⟨_,h.2,rfl,fun hgt ρ W hW=>?_⟩
   obtain ⟨k,hk⟩:=hi hgt
   obtain ⟨b0,b1,b2,b3⟩:=h.1 hgt
   obtain ⟨a,ha⟩:=Option.isSome_iff_exists.1 b3
   have hy:=zav b0
   rw [ha] at hy
   simp only [zak,zal,zah,zai,zaj]
   rw [show i.conc ρ=.int k (Value.I i.val) from zax hk,ha]
   conv=>lhs;rw [hy]
   rw [run _ _ _ _ _ _ b1 b2]
   rfl
  ·cases h
 ·split at h
  ·rename_i n e he
   have hu:=zbd he
   obtain ⟨hT,h⟩:=h
   have run:∀ (a:Addr) (k:IntKind) (ix:Int) (W:World),0≤ix→ix < n→(Instr.indexAt t (.pointer (some a)) (.int k ix)).run P W=.ok (.pointer (some (a.add (ix.toNat * szT P e)))) W:=by
    intro a k ix W h1 h2
    simp [Instr.indexAt,asIntOf,run_underlying hu,Instr.sureAddr,h1,h2,za1 hT]
   split at h
   ·rename_i r o
    refine ⟨_,h.2,hx,fun hgt ρ W hW=>?_⟩
    obtain ⟨k,hk⟩:=hi hgt
    obtain ⟨b1,b2⟩:=h.1 hgt
    simp only [zak,zai]
    rw [show i.conc ρ=.int k (Value.I i.val) from zax hk,run _ _ _ _ b1 b2,za4]
   ·rename_i y
    refine ⟨_,h.2,rfl,fun hgt ρ W hW=>?_⟩
    obtain ⟨k,hk⟩:=hi hgt
    obtain ⟨b0,b1,b2⟩:=h.1 hgt
    obtain ⟨a,rfl,ha⟩:=zau b0
    simp only [zak,zal,zah,zai,zaj]
    rw [show i.conc ρ=.int k (Value.I i.val) from zax hk,run _ _ _ _ b1 b2,ha]
    rfl
   ·cases h
  ·cases h
end
open Go Go.RowKit
section
variable {P:Program} {W0:Base} {h0:Hp} {st:St} {g:Bool}
def isG:SV→Prop
 | .g _=>True
 | .c (.v (.agg _))=>True
 | _=>False
theorem zbf {x:SV} (h:isG x) (ρ:Rho):x.conc ρ=.agg (x.cells.map (·.conc ρ)).toArray:=by
 cases x with
 | g cs=>rfl
 | c x=>cases x with
  | v x=>cases x <;> simp_all [isG,SV.cells,List.map_map,Function.comp_def]
  | _=>cases h
def zbg (P:Program) (g:Bool) (t:TypeId) (x:SV) (f:Nat) (K:SV→Prop):Prop :=
 match zaW P t f with
 | none=>False
 | some (off,ft)=>hasT P ft=true∧(g=true→isG x) ∧
  if aggT P ft=true then K (.g (cutC off (szT P ft) x.cells))
  else (g=true→off < x.cells.length)∧K (.c (x.cells.getD off (.v undef)))
theorem zbh {t:TypeId} {W:World} {cs:List SC} {ρ:Rho} {o:Nat} (ht:hasT P t=true) (ho:aggT P t=true∨o < cs.length) :
  (part t (cs.map (·.conc ρ)).toArray o).run P W=.ok (if aggT P t=true then .agg ((cutC o (szT P t) cs).map (·.conc ρ)).toArray else (cs.getD o (.v undef)).conc ρ) W:=by
 by_cases hg:aggT P t=true
 ·simp [part,zaZ ht,hg,za1 ht,cutC,List.extract_eq_take_drop,List.map_take,List.map_drop]
 ·have ho:o < cs.length:=ho.resolve_left hg
  simp [part,zaZ ht,hg,ho,List.getD_eq_getElem?_getD]
theorem zbi {t:TypeId} {x:SV} {f:Nat} {K:SV→Prop} (hx:x.lt st.nx=true) (h:zbg P g t x f K) :
  ∃ sv,K sv∧sv.lt st.nx=true∧(g=true→RunsTo P W0 h0 st (fun ρ=>Instr.field t (x.conc ρ) f) (fun ρ=>sv.conc ρ)):=by
 have hc:=SV.cells_lt hx
 unfold zbg at h
 split at h
 ·cases h
 ·rename_i off ft hf
  obtain ⟨hT,hG,h⟩:=h
  obtain ⟨fs,fd,hu,hfd,rfl,rfl⟩:=za9 hf
  split at h
  ·rename_i hg
   refine ⟨_,h,?_,fun hgt=>RunsTo.mk fun ρ W hW=>?_⟩
   ·simp only [SV.lt,List.all_eq_true,cutC]
    exact fun y hy=>hc y (List.mem_of_mem_drop (List.mem_of_mem_take hy))
   ·rw [zbf (hG hgt) ρ]
    have:=zbh (P:=P) (W:=W) (cs:=x.cells) (ρ:=ρ) (o:=fd.offset) hT (.inl hg)
    simp only [hg,if_true] at this
    simp [Instr.field,run_underlying hu,hfd,asAgg,this]
  ·rename_i hg
   refine ⟨_,h.2,?_,fun hgt=>RunsTo.mk fun ρ W hW=>?_⟩
   ·show SC.lt _ _=true
    by_cases ho:fd.offset < x.cells.length
    ·rw [List.getD_eq_getElem?_getD,List.getElem?_eq_getElem ho];exact hc _ (List.getElem_mem ho)
    ·rw [List.getD_eq_getElem?_getD,List.getElem?_eq_none (by omega)];rfl
   ·rw [zbf (hG hgt) ρ]
    have:=zbh (P:=P) (W:=W) (cs:=x.cells) (ρ:=ρ) (o:=fd.offset) hT (.inr (h.1 hgt))
    simp only [hg,if_false,Bool.false_eq_true] at this
    simp [Instr.field,run_underlying hu,hfd,asAgg,this]
def zbj (P:Program) (g:Bool) (t:TypeId) (x i:SV) (K:SV→Prop):Prop :=
 (g=true→∃ k,Value.isI k i.val) ∧
 match arrT P t with
 | some (n,e)=>hasT P e=true∧(g=true→isG x∧0≤Value.I i.val∧Value.I i.val < n) ∧
  if aggT P e=true then K (.g (cutC ((Value.I i.val).toNat * szT P e) (szT P e) x.cells))
  else (g=true→(Value.I i.val).toNat * szT P e < x.cells.length)∧K (.c (x.cells.getD ((Value.I i.val).toNat * szT P e) (.v undef)))
 | none=>strT P t=true∧(g=true→Value.isS x.val∧0≤Value.I i.val∧Value.I i.val < (Value.S x.val).size) ∧
   K (.c (.v (.int .u8 (((Value.S x.val)[(Value.I i.val).toNat]?).getD 0).toNat)))
theorem zbk {t:TypeId} (h:strT P t=true):P.underlying t=some .string:=by
 unfold strT at h
 split at h
 ·rename_i hu;exact hu
 ·cases h
theorem zbl {t:TypeId} {x i:SV} {K:SV→Prop} (hx:x.lt st.nx=true) (h:zbj P g t x i K) :
  ∃ sv,K sv∧sv.lt st.nx=true∧(g=true→RunsTo P W0 h0 st (fun ρ=>Instr.index t (x.conc ρ) (i.conc ρ)) (fun ρ=>sv.conc ρ)):=by
 have hc:=SV.cells_lt hx
 obtain ⟨hi,h⟩:=h
 split at h
 ·rename_i n e he
  have hu:=zbd he
  obtain ⟨hT,hG,h⟩:=h
  split at h
  ·rename_i hg
   refine ⟨_,h,?_,fun hgt=>RunsTo.mk fun ρ W hW=>?_⟩
   ·simp only [SV.lt,List.all_eq_true,cutC]
    exact fun y hy=>hc y (List.mem_of_mem_drop (List.mem_of_mem_take hy))
   ·obtain ⟨k,hk⟩:=hi hgt
    rw [zbf (hG hgt).1 ρ,show i.conc ρ=.int k (Value.I i.val) from zax hk]
    have:=zbh (P:=P) (W:=W) (cs:=x.cells) (ρ:=ρ) (o:=(Value.I i.val).toNat * szT P e) hT (.inl hg)
    simp only [hg,if_true] at this
    simp [Instr.index,asIntOf,run_underlying hu,hG hgt,za1 hT,this]
  ·rename_i hg
   refine ⟨_,h.2,?_,fun hgt=>RunsTo.mk fun ρ W hW=>?_⟩
   ·show SC.lt _ _=true
    by_cases ho:(Value.I i.val).toNat * szT P e < x.cells.length
    ·rw [List.getD_eq_getElem?_getD,List.getElem?_eq_getElem ho];exact hc _ (List.getElem_mem ho)
    ·rw [List.getD_eq_getElem?_getD,List.getElem?_eq_none (by omega)];rfl
   ·obtain ⟨k,hk⟩:=hi hgt
    rw [zbf (hG hgt).1 ρ,show i.conc ρ=.int k (Value.I i.val) from zax hk]
    have:=zbh (P:=P) (W:=W) (cs:=x.cells) (ρ:=ρ) (o:=(Value.I i.val).toNat * szT P e) hT (.inr (h.1 hgt))
    simp only [hg,if_false,Bool.false_eq_true] at this
    simp [Instr.index,asIntOf,run_underlying hu,hG hgt,za1 hT,this]
 ·obtain ⟨hs,hb,h⟩:=h
  have hu:=zbk hs
  refine ⟨_,h,rfl,fun hgt=>RunsTo.mk fun ρ W hW=>?_⟩
  obtain ⟨k,hk⟩:=hi hgt
  obtain ⟨b0,b1,b2⟩:=hb hgt
  rw [zaz (ρ:=ρ) b0,show i.conc ρ=.int k (Value.I i.val) from zax hk]
  have hlt:(Value.I i.val).toNat < (Value.S x.val).size:=by omega
  simp [Instr.index,asIntOf,run_underlying hu,b1,hlt]
def vlen (P:Program) (st:St) (g:Bool) (t:TypeId) (x:SV) (K:SV→Prop):Prop :=
 match zaX P t with
 | some _=>match x with
  | .c (.s r)=>match look r st.p with
   | some (.row _ _ n _)=>K (.c (.v (.int .i64 n)))
   | _=>False
  | .c (.v y)=>(g=true→Value.isA y)∧K (.c (.v (.int .i64 (Value.L y))))
  | _=>False
 | none=>match arrT P t with
  | some (n,_)=>K (.c (.v (.int .i64 n)))
  | none=>strT P t=true∧(g=true→Value.isS x.val)∧K (.c (.v (.int .i64 (Value.S x.val).size)))
theorem zbm {t ty:TypeId} {ts:Array TypeId} {x:SV} {K:SV→Prop} (h:vlen P st g t x K) :
  ∃ sv,K sv∧sv.lt st.nx=true∧(g=true→RunsTo P W0 h0 st (fun ρ=>Builtin.len_ #[t] ty #[x.conc ρ]) (fun ρ=>sv.conc ρ)):=by
 unfold vlen at h
 split at h
 ·rename_i e he
  have hu:=zbc he
  split at h
  ·rename_i r
   split at h
   ·rename_i e' sz n xs hl
    refine ⟨_,h,rfl,fun _=>RunsTo.mk fun ρ W hW=>?_⟩
    have hb:W.ownsRow 0 e' sz (ρ r) n xs:=hW.priv r _ hl
    rcases hb.2 with ⟨hv,h0⟩|⟨gg,cap,cur,hv,_⟩
    ·subst h0;simp [Builtin.len_,run_underlying hu,hv,goInt]
    ·simp [Builtin.len_,run_underlying hu,hv,goInt]
   ·cases h
  ·rename_i y
   refine ⟨_,h.2,rfl,fun hgt=>RunsTo.mk fun ρ W hW=>?_⟩
   have hy:=zav (h.1 hgt)
   rw [zak,zah,hy]
   simp [Builtin.len_,run_underlying hu,goInt,Value.L]
  ·cases h
 ·split at h
  ·rename_i n e he
   have hu:=zbd he
   exact ⟨_,h,rfl,fun _=>RunsTo.mk fun ρ W hW=>by simp [Builtin.len_,run_underlying hu,goInt]⟩
  ·have hu:=zbk h.1
   refine ⟨_,h.2.2,rfl,fun hgt=>RunsTo.mk fun ρ W hW=>?_⟩
   rw [zaz (ρ:=ρ) (h.2.1 hgt)]
   simp [Builtin.len_,run_underlying hu,goInt]
def zbn (f:Int→Int→Int) (a:Int):List SV→Int
 | []=>a
 | x :: xs=>zbn f (f a (Value.I x.val)) xs
def allI (k:IntKind):List SV→Prop
 | []=>True
 | x :: xs=>Value.isI k x.val∧allI k xs
def zbo (P:Program) (g:Bool) (f:Int→Int→Int) (t:TypeId) (xs:List SV) (K:SV→Prop):Prop :=
 match intT P t,xs with
 | some k,x :: xs=>(g=true→Value.isI k x.val∧allI k xs)∧K (.c (.v (.int k (zbn f (Value.I x.val) xs))))
 | _,_=>False
theorem zbp (k:IntKind) (a b:Int) (W:World):(Builtin.max2 (.int k a) (.int k b)).run P W=.ok (.int k (max a b)) W:=by
 simp only [Builtin.max2,Sem.run_pure,Int.max_def]
 congr 2
 split <;> split <;> omega
theorem zbq (k:IntKind) (a b:Int) (W:World):(Builtin.min2 (.int k a) (.int k b)).run P W=.ok (.int k (min a b)) W:=by
 simp only [Builtin.min2,Sem.run_pure,Int.min_def]
 congr 2
 split <;> split <;> omega
theorem zbr {F:Value→Value→Sem Value} {f:Int→Int→Int} {k:IntKind} {ρ:Rho} {W:World} (hF:∀ a b,(F (.int k a) (.int k b)).run P W=.ok (.int k (f a b)) W) :
  ∀ (xs:List SV) (a:Int),allI k xs→((xs.map (·.conc ρ)).foldlM F (.int k a)).run P W=.ok (.int k (zbn f a xs)) W
 | [],a,_=>by simp [zbn]
 | x :: xs,a,h=>by
  rw [List.map_cons,zax (ρ:=ρ) h.1]
  simp only [List.foldlM_cons,Sem.run_bind,hF,Result.andThen_ok,zbn]
  exact zbr hF xs _ h.2
theorem zbs {t ty:TypeId} {ts:Array TypeId} {xs:List SV} {K:SV→Prop} (h:zbo P g max t xs K) :
  ∃ sv,K sv∧sv.lt st.nx=true∧(g=true→RunsTo P W0 h0 st (fun ρ=>Builtin.max_ ts ty (xs.map (·.conc ρ)).toArray) (fun ρ=>sv.conc ρ)):=by
 unfold zbo at h
 split at h
 ·rename_i k x xs _
  refine ⟨_,h.2,rfl,fun hgt=>RunsTo.mk fun ρ W hW=>?_⟩
  obtain ⟨h1,h2⟩:=h.1 hgt
  rw [List.map_cons,zax (ρ:=ρ) h1]
  simp only [Builtin.max_]
  exact zbr (fun a b=>zbp k a b W) xs _ h2
 ·cases h
theorem zbt {t ty:TypeId} {ts:Array TypeId} {xs:List SV} {K:SV→Prop} (h:zbo P g min t xs K) :
  ∃ sv,K sv∧sv.lt st.nx=true∧(g=true→RunsTo P W0 h0 st (fun ρ=>Builtin.min_ ts ty (xs.map (·.conc ρ)).toArray) (fun ρ=>sv.conc ρ)):=by
 unfold zbo at h
 split at h
 ·rename_i k x xs _
  refine ⟨_,h.2,rfl,fun hgt=>RunsTo.mk fun ρ W hW=>?_⟩
  obtain ⟨h1,h2⟩:=h.1 hgt
  rw [List.map_cons,zax (ρ:=ρ) h1]
  simp only [Builtin.min_]
  exact zbr (fun a b=>zbq k a b W) xs _ h2
 ·cases h
def vun (g:Bool) (op:UnOp) (x:SV) (K:SV→Prop):Prop :=
 match op with
 | .not=>(g=true→Value.isB x.val)∧K (.c (.v (.bool (!Value.B x.val))))
 | .neg=>(g=true→Value.isI .i64 x.val)∧K (.c (.v (.int .i64 (IntKind.i64.wrap (0 - Value.I x.val)))))
 | _=>False
theorem zbu {op:UnOp} {x:SV} {K:SV→Prop} (h:vun g op x K) :
  ∃ sv,K sv∧sv.lt st.nx=true∧(g=true→RunsTo P W0 h0 st (fun ρ=>Op.unary op (x.conc ρ)) (fun ρ=>sv.conc ρ)):=by
 cases op <;> simp only [vun] at h <;> first|exact h.elim|skip
 ·refine ⟨_,h.2,rfl,fun hgt=>RunsTo.mk fun ρ W hW=>?_⟩
  rw [zax (ρ:=ρ) (h.1 hgt)]
  simp [Op.unary,Op.intArith]
 ·refine ⟨_,h.2,rfl,fun hgt=>RunsTo.mk fun ρ W hW=>?_⟩
  rw [zay (ρ:=ρ) (h.1 hgt)]
  simp [Op.unary]
def zbv (P:Program) (g:Bool) (s d:TypeId) (x:SV) (K:SV→Prop):Prop :=
 match intT P d with
 | some k=>hasT P s=true∧(g=true→∃ k',Value.isI k' x.val)∧K (.c (.v (.int k (k.wrap (Value.I x.val)))))
 | none=>False
theorem zbw {t:TypeId} {k:IntKind} (h:intT P t=some k):P.underlying t=some (.int k):=by
 unfold intT at h
 split at h
 ·rename_i hu;simp only [Option.some.injEq] at h;rw [hu,h]
 ·cases h
theorem zbx {s d:TypeId} {x:SV} {K:SV→Prop} (h:zbv P g s d x K) :
  ∃ sv,K sv∧sv.lt st.nx=true∧(g=true→RunsTo P W0 h0 st (fun ρ=>convert s d (x.conc ρ)) (fun ρ=>sv.conc ρ)):=by
 unfold zbv at h
 split at h
 ·rename_i k hk
  have hu:=zbw hk
  obtain ⟨hs,h1,h2⟩:=h
  refine ⟨_,h2,rfl,fun hgt=>RunsTo.mk fun ρ W hW=>?_⟩
  obtain ⟨k',hk'⟩:=h1 hgt
  rw [zax (ρ:=ρ) hk']
  obtain ⟨ds,hds⟩:=Option.isSome_iff_exists.1 hs
  simp [convert,run_underlying hu,run_underlying hds,Conv.intToInt]
 ·cases h
def zby (g:Bool) (x:SV) (i:Nat) (K:SV→Prop):Prop :=
 (g=true→Value.isT i x.val)∧K (.of ((Value.T x.val).getD i undef))
theorem zbz {x:SV} {i:Nat} {K:SV→Prop} (h:zby g x i K) :
  ∃ sv,K sv∧sv.lt st.nx=true∧(g=true→RunsTo P W0 h0 st (fun ρ=>Instr.extract (x.conc ρ) i) (fun ρ=>sv.conc ρ)):=by
 refine ⟨_,h.2,SV.of_lt _ _,fun hgt=>RunsTo.mk fun ρ W hW=>?_⟩
 obtain ⟨vs,h1,h2⟩:=zaA (ρ:=ρ) (h.1 hgt)
 simp [h1,Instr.extract,h2,SV.conc_of]
def isFn:Value→Prop
 | .func (.func _) _ _=>True
 | _=>False
def vnil (g:Bool) (x:SV) (K:SV→Prop):Prop :=
 match x with
 | .c (.p r o)=>K (.c (.p r o))
 | .c (.v y)=>(g=true→Value.isP y∨isFn y)∧K (.c (.v y))
 | _=>False
def zbA (P:Program) (g:Bool) (t:TypeId) (x:SV) (lo hi:Option SV) (K:SV→Prop):Prop :=
 match x with
 | .c (.v y)=>match zaX P t with
  | some e =>
   hasT P e=true∧(g=true→Value.isA y∧(∀ l,lo=some l→∃ k,Value.isI k l.val)∧(∀ u,hi=some u→∃ k,Value.isI k u.val) ∧
    0≤(lo.map (Value.I ·.val)).getD 0∧(lo.map (Value.I ·.val)).getD 0≤(hi.map (Value.I ·.val)).getD (Value.L y) ∧
    (hi.map (Value.I ·.val)).getD (Value.L y)≤(if hi.isSome then Value.C y else Value.L y)) ∧
   K (.c (.v (.slice (if Value.C y=((lo.map (Value.I ·.val)).getD 0).toNat then Value.A y else (Value.A y).map (·.add (((lo.map (Value.I ·.val)).getD 0).toNat * szT P e)))
    (((hi.map (Value.I ·.val)).getD (Value.L y)).toNat - ((lo.map (Value.I ·.val)).getD 0).toNat) (Value.C y - ((lo.map (Value.I ·.val)).getD 0).toNat))))
  | none=>strT P t=true∧(g=true→Value.isS y∧(∀ l,lo=some l→∃ k,Value.isI k l.val)∧(∀ u,hi=some u→∃ k,Value.isI k u.val) ∧
    0≤(lo.map (Value.I ·.val)).getD 0∧(lo.map (Value.I ·.val)).getD 0≤(hi.map (Value.I ·.val)).getD (Value.S y).size ∧
    (hi.map (Value.I ·.val)).getD (Value.S y).size≤(Value.S y).size) ∧
   K (.c (.v (.string ((Value.S y).extract ((lo.map (Value.I ·.val)).getD 0).toNat (((hi.map (Value.I ·.val)).getD (Value.S y).size).toNat)))))
 | _=>False
theorem zbB {k:IntKind} {i:Int} {y:Nat} {code:BoundsCode} {W:World} (h0:0≤i) (h1:i≤y):(Instr.sliceBound (.int k i) y code).run P W=.ok i.toNat W:=by
 simp [Instr.sliceBound,asIntOf,h0,h1]
theorem zbC {t:TypeId} {x:SV} {lo hi:Option SV} {K:SV→Prop} (h:zbA P g t x lo hi K) :
  ∃ sv,K sv∧sv.lt st.nx=true∧(g=true→RunsTo P W0 h0 st (fun ρ=>Instr.sliceAt t (x.conc ρ) (lo.map (·.conc ρ)) (hi.map (·.conc ρ)) none) (fun ρ=>sv.conc ρ)):=by
 unfold zbA at h
 split at h
 ·rename_i y
  split at h
  ·rename_i e he
   have hu:=zbc he
   obtain ⟨hT,hb,h⟩:=h
   refine ⟨_,h,rfl,fun hgt=>RunsTo.mk fun ρ W hW=>?_⟩
   obtain ⟨hA,hl,hh,b0,b1,b2⟩:=hb hgt
   have hy:=zav hA
   rw [zak,zah]
   conv=>lhs;rw [hy]
   cases lo with
   | none =>
    cases hi with
    | none =>
     simp [Instr.sliceAt,Instr.slice,run_underlying hu,Instr.sliceBounds,za1 hT]
    | some u =>
     obtain ⟨k,hk⟩:=hh u rfl
     simp only [Option.map_some,Option.getD_some,Option.isSome_some,if_true,Option.map_none,Option.getD_none] at b0 b1 b2
     simp [Instr.sliceAt,Instr.slice,run_underlying hu,Instr.sliceBounds,za1 hT,show u.conc ρ=.int k (Value.I u.val) from zax hk,zbB (P:=P) (W:=W) (k:=k) (i:=Value.I u.val) (y:=Value.C y) (by omega) (by omega)]
   | some l =>
    obtain ⟨k,hk⟩:=hl l rfl
    cases hi with
    | none =>
     simp only [Option.map_some,Option.getD_some,Option.isSome_none,Option.map_none,Option.getD_none,Bool.false_eq_true,if_false] at b0 b1 b2
     simp [Instr.sliceAt,Instr.slice,run_underlying hu,Instr.sliceBounds,za1 hT,show l.conc ρ=.int k (Value.I l.val) from zax hk,zbB (P:=P) (W:=W) (k:=k) (i:=Value.I l.val) (y:=Value.L y) (by omega) (by omega)]
    | some u =>
     obtain ⟨k',hk'⟩:=hh u rfl
     simp only [Option.map_some,Option.getD_some,Option.isSome_some,if_true] at b0 b1 b2
     simp [Instr.sliceAt,Instr.slice,run_underlying hu,Instr.sliceBounds,za1 hT,show l.conc ρ=.int k (Value.I l.val) from zax hk,show u.conc ρ=.int k' (Value.I u.val) from zax hk',
      zbB (P:=P) (W:=W) (k:=k') (i:=Value.I u.val) (y:=Value.C y) (by omega) (by omega),zbB (P:=P) (W:=W) (k:=k) (i:=Value.I l.val) (y:=(Value.I u.val).toNat) (by omega) (by omega)]
  ·obtain ⟨hs,hb,h⟩:=h
   have hu:=zbk hs
   refine ⟨_,h,rfl,fun hgt=>RunsTo.mk fun ρ W hW=>?_⟩
   obtain ⟨hS,hl,hh,b0,b1,b2⟩:=hb hgt
   have hy:=zat hS
   rw [zak,zah]
   conv=>lhs;rw [hy]
   cases lo with
   | none =>
    cases hi with
    | none =>
     simp [Instr.sliceAt,Instr.slice,run_underlying hu,Instr.sliceBounds]
    | some u =>
     obtain ⟨k,hk⟩:=hh u rfl
     simp only [Option.map_some,Option.getD_some,Option.map_none,Option.getD_none] at b0 b1 b2
     simp [Instr.sliceAt,Instr.slice,run_underlying hu,Instr.sliceBounds,show u.conc ρ=.int k (Value.I u.val) from zax hk,zbB (P:=P) (W:=W) (k:=k) (i:=Value.I u.val) (y:=(Value.S y).size) (by omega) (by omega)]
   | some l =>
    obtain ⟨k,hk⟩:=hl l rfl
    cases hi with
    | none =>
     simp only [Option.map_some,Option.getD_some,Option.map_none,Option.getD_none] at b0 b1 b2
     simp [Instr.sliceAt,Instr.slice,run_underlying hu,Instr.sliceBounds,show l.conc ρ=.int k (Value.I l.val) from zax hk,zbB (P:=P) (W:=W) (k:=k) (i:=Value.I l.val) (y:=(Value.S y).size) (by omega) (by omega)]
    | some u =>
     obtain ⟨k',hk'⟩:=hh u rfl
     simp only [Option.map_some,Option.getD_some] at b0 b1 b2
     simp [Instr.sliceAt,Instr.slice,run_underlying hu,Instr.sliceBounds,show l.conc ρ=.int k (Value.I l.val) from zax hk,show u.conc ρ=.int k' (Value.I u.val) from zax hk',
      zbB (P:=P) (W:=W) (k:=k') (i:=Value.I u.val) (y:=(Value.S y).size) (by omega) (by omega),zbB (P:=P) (W:=W) (k:=k) (i:=Value.I l.val) (y:=(Value.I u.val).toNat) (by omega) (by omega)]
 ·cases h
end
open Go Go.RowKit
def zbD (P:Program) (t:TypeId) (i:Nat):Option (Nat × Nat) :=
 match P.underlying t with
 | some (.struct fs)=>(fs[i]?).map fun f=>(f.offset,szT P f.type)
 | some (.array _ e)=>some (i * szT P e,szT P e)
 | _=>none
def zbE (P:Program) (t:TypeId):Bool :=
 match P.underlying t with
 | some (.struct fs)=>fs.toList.all fun f=>hasT P f.type
 | some (.array _ e)=>hasT P e
 | _=>false
def zbF (P:Program) (t:TypeId):Option (List Value):=((P.info? t).bind (·.zero)).map fun z=>z.cells.toList
def zbG {α:Type} (o:Nat) (new cs:List α):List α:=cs.take o ++ (new ++ cs.drop (o+new.length))
def zbH (P:Program) (t:TypeId):List (Nat × SV)→List SC→(List SC→Prop)→Prop
 | [],cs,K=>K cs
 | (i,x) :: l,cs,K=>match zbD P t i with
  | some (off,size)=>x.cells.length=size∧off+size≤cs.length∧(∀ r,x ≠ .c (.s r))∧zbH P t l (zbG off x.cells cs) K
  | none=>False
def zbI (P:Program) (t:TypeId) (parts:List (Nat × SV)) (K:SV→Prop):Prop :=
 zbE P t=true∧hasT P t=true∧match zbF P t with
  | some z=>zbH P t parts (z.map .v) fun cs=>K (.g cs)
  | none=>False
section
variable {P:Program} {W0:Base} {h0:Hp} {st:St} {g:Bool}
theorem zbJ:∀ (new:List Value) (cs:List Value) (o j:Nat),o+j+new.length≤cs.length →
  (new.zipIdx j).foldl (fun (a:Array Value) (x:Value × Nat)=>a.setIfInBounds (o+x.2) x.1) cs.toArray=(zbG (o+j) new cs).toArray
 | [],cs,o,j,_=>by simp [zbG]
 | v :: new,cs,o,j,h=>by
  simp only [List.length_cons] at h
  simp only [List.zipIdx_cons,List.foldl_cons,List.setIfInBounds_toArray]
  rw [zbJ new (cs.set (o+j) v) o (j+1) (by simp;omega)]
  congr 1
  simp only [zbG]
  have m1:min (o+(j+1)) cs.length=o+(j+1):=by omega
  have m2:min (o+j) cs.length=o+j:=by omega
  apply List.ext_getElem?
  intro i
  simp only [List.getElem?_append,List.length_take,List.length_set,List.getElem?_take,List.getElem?_drop,List.length_cons,List.getElem?_set,m1,m2]
  rcases Nat.lt_trichotomy i (o+j) with hi|hi|hi
  ·rw [if_pos (by omega),if_pos (by omega),if_neg (by omega),if_pos (by omega),if_pos (by omega)]
  ·subst hi
   rw [if_pos (by omega),if_pos (by omega),if_pos rfl,if_pos (by omega),if_neg (by omega),if_pos (by omega)]
   simp
  ·rw [if_neg (show ¬ i < o+(j+1) by omega),if_neg (show ¬ i < o+j by omega)]
   have e1:i - (o+j)=(i - (o+(j+1)))+1:=by omega
   rw [e1]
   by_cases hc:i - (o+(j+1)) < new.length
   ·rw [if_pos hc,if_pos (by omega)]
    simp
   ·rw [if_neg hc,if_neg (by omega),if_neg (by omega)]
    congr 1
    omega
theorem zbK {nx:Nat} {t:TypeId} {pl:Nat→Option (Nat × Nat)} (hpl:∀ i x,zbD P t i=some x→pl i=some x):∀ {parts:List (Nat × SV)} {cs:List SC} {K:List SC→Prop},
  (∀ x ∈ parts,x.2.lt nx=true)→(∀ c ∈ cs,c.lt nx=true)→zbH P t parts cs K →
  ∃ cs',K cs'∧(∀ c ∈ cs',c.lt nx=true)∧∀ ρ,Instr.fill pl (cs.map (·.conc ρ)).toArray (parts.map fun x=>(x.1,x.2.conc ρ))=some (cs'.map (·.conc ρ)).toArray
 | [],cs,K,_,hc,h=>⟨cs,h,hc,fun _=>rfl⟩
 | (i,x) :: l,cs,K,hp,hc,h=>by
  simp only [zbH] at h
  split at h
  ·rename_i off size hpt
   obtain ⟨h1,h2,h3,h⟩:=h
   have hxl:=hp (i,x) List.mem_cons_self
   have hc':∀ c ∈ zbG off x.cells cs,c.lt nx=true:=by
    intro c hcc
    simp only [zbG,List.mem_append] at hcc
    rcases hcc with hcc|hcc|hcc
    ·exact hc c (List.mem_of_mem_take hcc)
    ·exact SV.cells_lt hxl c hcc
    ·exact hc c (List.mem_of_mem_drop hcc)
   obtain ⟨cs',k1,k2,k3⟩:=zbK hpl (parts:=l) (fun y hy=>hp y (List.mem_cons_of_mem _ hy)) hc' h
   refine ⟨cs',k1,k2,fun ρ=>?_⟩
   rw [← k3 ρ]
   have hcx:=(SV.cells_conc ρ x).resolve_right (fun ⟨r,hr⟩=>h3 r hr)
   have:=zbJ (x.cells.map (·.conc ρ)) (cs.map (·.conc ρ)) off 0 (by simp [h1];omega)
   simp only [Nat.add_zero] at this
   have e2:((x.cells.map (·.conc ρ)).toArray.zipIdx).foldl (fun (a:Array Value) (y:Value × Nat)=>a.setIfInBounds (off+y.2) y.1) (cs.map (·.conc ρ)).toArray=((zbG off x.cells cs).map (·.conc ρ)).toArray:=by
    rw [← Array.foldl_toList,Array.toList_zipIdx,this]
    simp [zbG,List.map_take,List.map_drop]
   simp only [List.map_cons,Instr.fill,hpl _ _ hpt,hcx,List.size_toArray,List.length_map,h1,ne_eq,not_true_eq_false,gt_iff_lt,Nat.not_lt.2 h2,decide_false,Bool.or_self,Bool.false_eq_true,if_false]
   exact congrArg (fun A=>Instr.fill pl A (l.map fun x=>(x.1,x.2.conc ρ))) e2
  ·cases h
theorem zbL {t:TypeId} {z:List Value} (h:zbF P t=some z):∃ v:Value,v.cells.toList=z∧∀ W,(zeroValue t).run P W=.ok v W:=by
 unfold zbF at h
 obtain ⟨v,h1,h2⟩:=Option.map_eq_some_iff.1 h
 obtain ⟨i,hi,hz⟩:=Option.bind_eq_some_iff.1 h1
 exact ⟨v,h2,fun W=>by simp [zeroValue,typeInfo,hi,hz]⟩
theorem zbM {W:World}:∀ (fs:List Field),(∀ f ∈ fs,hasT P f.type=true) →
  (fs.mapM (m:=Sem) fun f=>do pure (f.offset,← sizeOf f.type)).run P W=.ok (fs.map fun f=>(f.offset,szT P f.type)) W
 | [],_=>rfl
 | f :: fs,h=>by
  have ih:=zbM (W:=W) fs (fun x hx=>h x (List.mem_cons_of_mem _ hx))
  rw [List.mapM_cons]
  simp only [Sem.run_bind,za1 (P:=P) (h f List.mem_cons_self),Result.andThen_ok,Sem.run_pure,ih,List.map_cons]
theorem zbN {t:TypeId} {parts:List (Nat × SV)} {K:SV→Prop} (hp:∀ x ∈ parts,x.2.lt st.nx=true) (h:zbI P t parts K) :
  ∃ sv,K sv∧sv.lt st.nx=true∧RunsTo P W0 h0 st (fun ρ=>Instr.build t (parts.map fun x=>(x.1,x.2.conc ρ)).toArray) (fun ρ=>sv.conc ρ):=by
 obtain ⟨hok,hT,h⟩:=h
 split at h
 ·rename_i z hz
  obtain ⟨v,hv,hrun⟩:=zbL hz
  have hz0:∀ c ∈ z.map SC.v,c.lt st.nx=true:=by
   intro c hc
   obtain ⟨y,_,rfl⟩:=List.mem_map.1 hc
   rfl
  have hz1:∀ ρ,(z.map SC.v).map (·.conc ρ)=z:=by intro ρ;simp [List.map_map,Function.comp_def]
  obtain ⟨d,hd⟩:=Option.isSome_iff_exists.1 hT
  have hvc:v.cells=z.toArray:=by rw [← hv]
  unfold zbE at hok
  rw [hd] at hok
  cases d <;> simp only at hok <;> first|cases hok|skip
  case struct fs =>
   have hall:∀ f ∈ fs.toList,hasT P f.type=true:=fun f hf=>List.all_eq_true.1 hok f hf
   obtain ⟨cs',k1,k2,k3⟩:=zbK (P:=P) (t:=t) (pl:=fun i=>(fs.toList.map fun f=>(f.offset,szT P f.type)).toArray[i]?) (fun i x hx=>by
    simp only [zbD,hd] at hx
    simpa using hx) hp hz0 h
   refine ⟨.g cs',k1,by simpa [SV.lt,List.all_eq_true] using k2,RunsTo.mk fun ρ W hW=>?_⟩
   have hm:(fs.mapM (m:=Sem) fun f=>do pure (f.offset,← sizeOf f.type)).run P W=.ok (fs.toList.map fun f=>(f.offset,szT P f.type)).toArray W:=by
    rw [Array.mapM_eq_mapM_toList]
    have e:∀ m:Sem (List (Nat × Nat)),(List.toArray <$> m)=m >>= fun l=>pure l.toArray:=fun _=>rfl
    rw [e]
    simp only [Sem.run_bind,zbM (P:=P) (W:=W) fs.toList hall,Result.andThen_ok,Sem.run_pure]
   have hf:=k3 ρ
   rw [hz1] at hf
   simp only [Instr.build,Sem.run_bind,hrun,Result.andThen_ok,run_underlying hd,hm,hvc]
   simp only [hf,Sem.run_pure,zal]
  case array n e =>
   obtain ⟨cs',k1,k2,k3⟩:=zbK (P:=P) (t:=t) (pl:=fun i=>some (i * szT P e,szT P e)) (fun i x hx=>by
    simp only [zbD,hd] at hx
    simpa using hx) hp hz0 h
   refine ⟨.g cs',k1,by simpa [SV.lt,List.all_eq_true] using k2,RunsTo.mk fun ρ W hW=>?_⟩
   have hf:=k3 ρ
   rw [hz1] at hf
   simp only [Instr.build,Sem.run_bind,hrun,Result.andThen_ok,run_underlying hd,za1 (P:=P) hok,hvc]
   simp only [hf,Sem.run_pure,zal]
 ·cases h
end
open Go Go.RowKit
def zbO (P:Program) (st:St) (g:Bool) (b:Builtin) (ts:List TypeId) (xs:List Operand) (K:SV→Prop):Prop :=
 match b,ts with
 | .len,[t]=>zaC st g xs fun vs=>match vs with
  | [x]=>vlen P st g t x K
  | _=>False
 | .max,t :: _=>zaC st g xs fun vs=>zbo P g max t vs K
 | .min,t :: _=>zaC st g xs fun vs=>zbo P g min t vs K
 | _,_=>False
def optO (st:St) (g:Bool) (x:Option Operand) (K:Option SV→Prop):Prop :=
 match x with
 | none=>K none
 | some x=>getO st g x fun v=>K (some v)
def zbP (st:St) (g:Bool) (c a b:Operand) (K:SV→Prop):Prop :=
 getO st g c fun vc=>(g=true→Value.isB vc.val) ∧
  getO st (g && Value.B vc.val) a fun va=>(g=true→Value.B vc.val=true→Value.isB va.val) ∧
   getO st (g && !Value.B vc.val) b fun vb=>(g=true→Value.B vc.val=false→Value.isB vb.val) ∧
    K (.c (.v (.bool (bif Value.B vc.val then Value.B va.val else Value.B vb.val))))
def vq (P:Program) (st:St) (g:Bool) (op:Op) (K:SV→Prop):Prop :=
 match op with
 | .move x=>getO st g x K
 | .assign x=>getO st g x K
 | .pick c a b=>zbP st g c a b K
 | .load t x=>getO st g x fun v=>za2 P st g t v K
 | .nilCheck x=>getO st g x fun v=>vnil g v K
 | .binOp op t x y _=>getO st g x fun a=>getO st g y fun b=>vbin P g op t a b fun v=>K (.c (.v v))
 | .unOp op _ x=>getO st g x fun v=>vun g op v K
 | .convert s d x=>getO st g x fun v=>zbv P g s d v K
 | .fieldAddr t x f=>getO st g x fun v=>za8 P g t v f K
 | .field t x f=>getO st g x fun v=>zbg P g t v f K
 | .indexAddr t x i=>getO st g x fun v=>getO st g i fun j=>zbb P st g t v j K
 | .index t x i=>getO st g x fun v=>getO st g i fun j=>zbj P g t v j K
 | .extract x i=>getO st g x fun v=>zby g v i K
 | .slice t x lo hi none=>getO st g x fun v=>optO st g lo fun l=>optO st g hi fun u=>zbA P g t v l u K
 | .build t ps=>zaC st g (ps.toList.map (·.2)) fun vs=>(g=true)∧zbI P t ((ps.toList.map (·.1)).zip vs) K
 | .call c=>match c.callee with
  | .builtin b=>zbO P st g b c.argTypes.toList c.args.toList K
  | _=>False
 | _=>False
section
variable {P:Program} {W0:Base} {h0:Hp} {N:Nat} {st:St} {g:Bool}
def Yv (P:Program) (W0:Base) (h0:Hp) (N:Nat) (st:St) (o:Oper) (sv:SV):Prop :=
 ∀ ρ a W,FOk N ρ st.e a→WOk W0 h0 ρ st.p st.h W→(execOp a.eval o).run P W=.ok (.value (sv.conc ρ)) W
theorem zbQ {x:Option Operand} {K:Option SV→Prop} (hw:st.wf=true) (h:optO st g x K) :
  ∃ v,K v∧(g=true→∀ ρ a,FOk N ρ st.e a→x.map a.eval=v.map (·.conc ρ)):=by
 cases x with
 | none=>exact ⟨none,h,fun _ _ _ _=>rfl⟩
 | some x =>
  obtain ⟨sv,h1,_,h3⟩:=zaB (N:=N) (x:=x) (g:=g) (K:=fun v=>K (some v)) hw h
  exact ⟨some sv,h1,fun hg ρ a hf=>by simp [h3 hg ρ a hf]⟩
theorem zbR {S:Sem Value} {v:Value} {W:World} (h:S.run P W=.ok v W):(do pure (Next.value (← S)):Sem Next).run P W=.ok (.value v) W:=by
 simp [Sem.run_bind,h]
theorem zbS {o:Oper} {K:SV→Prop} (hw:st.wf=true) (h:vq P st g o.op K) :
  ∃ sv,K sv∧sv.lt st.nx=true∧(g=true→Yv P W0 h0 N st o sv):=by
 obtain ⟨dst,op,type,pos,after,guard⟩:=o
 cases op <;> simp only [vq] at h <;> first|exact h.elim|skip
 case move x =>
  obtain ⟨sv,h1,h2,h3⟩:=zaB (N:=N) hw h
  exact ⟨sv,h1,h2,fun hg ρ a W hf _=>by simp [execOp,h3 hg ρ a hf]⟩
 case assign x =>
  obtain ⟨sv,h1,h2,h3⟩:=zaB (N:=N) hw h
  exact ⟨sv,h1,h2,fun hg ρ a W hf _=>by simp [execOp,h3 hg ρ a hf]⟩
 case pick c x y =>
  unfold zbP at h
  obtain ⟨vc,h,_,hc⟩:=zaB (N:=N) hw h
  obtain ⟨bc,h⟩:=h
  obtain ⟨va,h,_,ha⟩:=zaB (N:=N) hw h
  obtain ⟨ba,h⟩:=h
  obtain ⟨vb,h,_,hb⟩:=zaB (N:=N) hw h
  obtain ⟨bb,h⟩:=h
  refine ⟨_,h,rfl,fun hg ρ a W hf _=>?_⟩
  cases hv:Value.B vc.val with
  | true =>
   simp [execOp,hc hg ρ a hf,zay (ρ:=ρ) (bc hg),hv,asBool,ha (by simp [hg,hv]) ρ a hf,zay (ρ:=ρ) (ba hg hv)]
  | false =>
   simp [execOp,hc hg ρ a hf,zay (ρ:=ρ) (bc hg),hv,asBool,hb (by simp [hg,hv]) ρ a hf,zay (ρ:=ρ) (bb hg hv)]
 case load t x =>
  obtain ⟨v,h,_,hx⟩:=zaB (N:=N) hw h
  obtain ⟨sv,h1,h2,h3⟩:=za7 (W0:=W0) (h0:=h0) hw h
  exact ⟨sv,h1,h2,fun hg ρ a W hf hW=>by simp only [execOp,hx hg ρ a hf];exact zbR (h3 hg ρ W hW)⟩
 case nilCheck x =>
  obtain ⟨v,h,hl,hx⟩:=zaB (N:=N) hw h
  unfold vnil at h
  split at h
  ·rename_i r o
   exact ⟨_,h,hl,fun hg ρ a W hf hW=>by simp [execOp,hx hg ρ a hf]⟩
  ·rename_i y
   refine ⟨_,h.2,rfl,fun hg ρ a W hf hW=>?_⟩
   simp only [execOp,hx hg ρ a hf,zak,zah]
   rcases h.1 hg with hp|hp
   ·obtain ⟨ad,rfl,_⟩:=zau hp;rfl
   ·unfold isFn at hp
    split at hp
    ·rfl
    ·exact hp.elim
  ·exact h.elim
 case binOp op t x y yt =>
  obtain ⟨a1,h,_,hx⟩:=zaB (N:=N) hw h
  obtain ⟨b1,h,_,hy⟩:=zaB (N:=N) hw h
  obtain ⟨v,h1,hn,h3⟩:=zaV h
  refine ⟨_,h1,rfl,fun hg ρ a W hf hW=>?_⟩
  simp only [execOp,hx hg ρ a hf,hy hg ρ a hf]
  exact zbR (h3 hg ρ W x y)
 case unOp op t x =>
  obtain ⟨v,h,_,hx⟩:=zaB (N:=N) hw h
  obtain ⟨sv,h1,h2,h3⟩:=zbu (P:=P) (W0:=W0) (h0:=h0) (st:=st) h
  exact ⟨sv,h1,h2,fun hg ρ a W hf hW=>by simp only [execOp,hx hg ρ a hf];exact zbR (h3 hg ρ W hW)⟩
 case convert s d x =>
  obtain ⟨v,h,_,hx⟩:=zaB (N:=N) hw h
  obtain ⟨sv,h1,h2,h3⟩:=zbx (P:=P) (W0:=W0) (h0:=h0) (st:=st) h
  exact ⟨sv,h1,h2,fun hg ρ a W hf hW=>by simp only [execOp,hx hg ρ a hf];exact zbR (h3 hg ρ W hW)⟩
 case fieldAddr t x f =>
  obtain ⟨v,h,hl,hx⟩:=zaB (N:=N) hw h
  obtain ⟨sv,h1,h2,h3⟩:=zba (P:=P) (W0:=W0) (h0:=h0) (st:=st) hl h
  exact ⟨sv,h1,h2,fun hg ρ a W hf hW=>by simp only [execOp,hx hg ρ a hf];exact zbR (h3 hg ρ W hW)⟩
 case field t x f =>
  obtain ⟨v,h,hl,hx⟩:=zaB (N:=N) hw h
  obtain ⟨sv,h1,h2,h3⟩:=zbi (P:=P) (W0:=W0) (h0:=h0) (st:=st) hl h
  exact ⟨sv,h1,h2,fun hg ρ a W hf hW=>by simp only [execOp,hx hg ρ a hf];exact zbR (h3 hg ρ W hW)⟩
 case indexAddr t x i =>
  obtain ⟨v,h,hl,hx⟩:=zaB (N:=N) hw h
  obtain ⟨j,h,_,hi⟩:=zaB (N:=N) hw h
  obtain ⟨sv,h1,h2,h3⟩:=zbe (P:=P) (W0:=W0) (h0:=h0) (st:=st) hl h
  exact ⟨sv,h1,h2,fun hg ρ a W hf hW=>by simp only [execOp,hx hg ρ a hf,hi hg ρ a hf];exact zbR (h3 hg ρ W hW)⟩
 case index t x i =>
  obtain ⟨v,h,hl,hx⟩:=zaB (N:=N) hw h
  obtain ⟨j,h,_,hi⟩:=zaB (N:=N) hw h
  obtain ⟨sv,h1,h2,h3⟩:=zbl (P:=P) (W0:=W0) (h0:=h0) (st:=st) hl h
  exact ⟨sv,h1,h2,fun hg ρ a W hf hW=>by simp only [execOp,hx hg ρ a hf,hi hg ρ a hf];exact zbR (h3 hg ρ W hW)⟩
 case extract x i =>
  obtain ⟨v,h,_,hx⟩:=zaB (N:=N) hw h
  obtain ⟨sv,h1,h2,h3⟩:=zbz (P:=P) (W0:=W0) (h0:=h0) (st:=st) h
  exact ⟨sv,h1,h2,fun hg ρ a W hf hW=>by simp only [execOp,hx hg ρ a hf];exact zbR (h3 hg ρ W hW)⟩
 case slice t x lo hi mx =>
  cases mx <;> simp only at h <;> first|exact h.elim|skip
  obtain ⟨v,h,_,hx⟩:=zaB (N:=N) hw h
  obtain ⟨l,h,hl⟩:=zbQ (N:=N) hw h
  obtain ⟨u,h,hu⟩:=zbQ (N:=N) hw h
  obtain ⟨sv,h1,h2,h3⟩:=zbC (P:=P) (W0:=W0) (h0:=h0) (st:=st) h
  exact ⟨sv,h1,h2,fun hg ρ a W hf hW=>by simp only [execOp,hx hg ρ a hf,hl hg ρ a hf,hu hg ρ a hf,Option.map_none];exact zbR (h3 hg ρ W hW)⟩
 case build t ps =>
  obtain ⟨vs,h,hlen,hl,hx⟩:=zaD (N:=N) hw h
  obtain ⟨hg,h⟩:=h
  obtain ⟨sv,h1,h2,h3⟩:=zbN (P:=P) (W0:=W0) (h0:=h0) (st:=st) (fun x hx=>hl _ (List.of_mem_zip hx).2) h
  refine ⟨sv,h1,h2,fun hg ρ a W hf hW=>?_⟩
  have e:(ps.map fun (i,x)=>(i,a.eval x))=(((ps.toList.map (·.1)).zip vs).map fun x=>(x.1,x.2.conc ρ)).toArray:=by
   have hx:=hx hg ρ a hf
   apply Array.toList_inj.1
   simp only [Array.toList_map]
   have:∀ (l:List (Nat × Operand)) (vs:List SV),(l.map (·.2)).map a.eval=vs.map (·.conc ρ)→l.map (fun x=>(x.1,a.eval x.2))=((l.map (·.1)).zip vs).map fun x=>(x.1,x.2.conc ρ):=by
    intro l
    induction l with
    | nil=>intro vs _;simp
    | cons y l ih =>
     intro vs hvs
     cases vs with
     | nil=>simp at hvs
     | cons v vs =>
      simp only [List.map_cons,List.cons.injEq] at hvs
      simp only [List.map_cons,List.zip_cons_cons,hvs.1]
      rw [ih vs hvs.2]
   exact this ps.toList vs hx
  simp only [execOp,e]
  exact zbR (h3 ρ W hW)
 case call c =>
  obtain ⟨callee,args,ats⟩:=c
  cases callee <;> simp only at h <;> first|exact h.elim|skip
  case builtin b =>
   have run:∀ (f:Array TypeId→TypeId→Array Value→Sem Value) (vs:List SV) (sv:SV) (ρ:Rho) (a:Act) (W:World),args.toList.map a.eval=vs.map (·.conc ρ) →
     (f ats type (vs.map (·.conc ρ)).toArray).run P W=.ok (sv.conc ρ) W→(f ats type (args.map a.eval)).run P W=.ok (sv.conc ρ) W:=by
    intro f vs sv ρ a W hv hr
    have:args.map a.eval=(vs.map (·.conc ρ)).toArray:=Array.toList_inj.1 (by rw [Array.toList_map,hv])
    rw [this];exact hr
   unfold zbO at h
   split at h
   ·rename_i t hts
    obtain ⟨vs,h,_,_,hx⟩:=zaD (N:=N) hw h
    split at h
    ·rename_i x
     obtain ⟨sv,h1,h2,h3⟩:=zbm (P:=P) (W0:=W0) (h0:=h0) (st:=st) (ty:=type) (ts:=ats) h
     refine ⟨sv,h1,h2,fun hg ρ a W hf hW=>?_⟩
     have hat:ats=#[t]:=Array.toList_inj.1 (by simpa using hts)
     show (do let d ← resolve a.eval ⟨_,args,ats⟩ type;invoke d.target d.args:Sem Next).run P W=_
     rw [Sem.run_bind]
     simp only [resolve,Sem.run_pure,Result.andThen_ok,invoke,builtin]
     have:=run Builtin.len_ _ sv ρ a W (hx hg ρ a hf) (by rw [hat];exact h3 hg ρ W hW)
     exact zbR this
    ·exact h.elim
   ·rename_i t ts hts
    obtain ⟨vs,h,_,_,hx⟩:=zaD (N:=N) hw h
    obtain ⟨sv,h1,h2,h3⟩:=zbs (P:=P) (W0:=W0) (h0:=h0) (st:=st) (ty:=type) (ts:=ats) h
    refine ⟨sv,h1,h2,fun hg ρ a W hf hW=>?_⟩
    show (do let d ← resolve a.eval ⟨_,args,ats⟩ type;invoke d.target d.args:Sem Next).run P W=_
    rw [Sem.run_bind]
    simp only [resolve,Sem.run_pure,Result.andThen_ok,invoke,builtin]
    have:=run Builtin.max_ _ sv ρ a W (hx hg ρ a hf) (h3 hg ρ W hW)
    exact zbR this
   ·rename_i t ts hts
    obtain ⟨vs,h,_,_,hx⟩:=zaD (N:=N) hw h
    obtain ⟨sv,h1,h2,h3⟩:=zbt (P:=P) (W0:=W0) (h0:=h0) (st:=st) (ty:=type) (ts:=ats) h
    refine ⟨sv,h1,h2,fun hg ρ a W hf hW=>?_⟩
    show (do let d ← resolve a.eval ⟨_,args,ats⟩ type;invoke d.target d.args:Sem Next).run P W=_
    rw [Sem.run_bind]
    simp only [resolve,Sem.run_pure,Result.andThen_ok,invoke,builtin]
    have:=run Builtin.min_ _ sv ρ a W (hx hg ρ a hf) (h3 hg ρ W hW)
    exact zbR this
   ·exact h.elim
end
end Go.SL
