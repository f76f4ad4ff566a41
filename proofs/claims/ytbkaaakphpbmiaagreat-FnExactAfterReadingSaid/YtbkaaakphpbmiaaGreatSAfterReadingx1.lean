/- Plain theorems about the model. -/
import Derived.Great.BuildSlice
import Derived.Great.FillDense
import Derived.Test.YtbkaaakphpbmiaaGreatSAfterReadingx0
set_option linter.unusedVariables false
set_option linter.unusedSimpArgs false
set_option maxRecDepth 4000
open Nat renaming reduceAdd → jq, reduceMul → jj, reduceBEq → jy, reduceLeDiff → jv, reduceLT → jk, reduceEqDiff → jx
open Bool renaming or_eq_false_iff → jp, or_eq_true → jQ, and_eq_true → jJ
open Int renaming toNat_natCast → jW, natCast_nonneg → jY
namespace Go.SL
open Go Go.RowKit
def upd (ρ:Rho) (n:Nat) (v:Value):Rho:=fun r=>if r=n then v else ρ r
theorem zbT (ρ:Rho) (n:Nat) (v:Value):upd ρ n v n=v:=by simp [upd]
theorem zbU (ρ:Rho) (n:Nat) (v:Value):∀ r,r < n→ρ r=upd ρ n v r:=by
 intro r hr
 simp only [upd]
 rw [if_neg (by omega)]
def atV (v:Value) (g:Nat):Prop:=v=.pointer (some ⟨g,0,none⟩)∨∃ n c,v=.slice (some ⟨g,0,none⟩) n c
theorem zbV {ρ:Rho} {r g:Nat}:PB.at ρ r g ↔ atV (ρ r) g:=Iff.rfl
theorem zbW {v:Value} {g g':Nat} (h:atV v g) (h':atV v g'):g=g':=by
 rcases h with rfl|⟨n,c,rfl⟩ <;> rcases h' with h'|⟨n',c',h'⟩ <;> simp_all
theorem PB.ok_congr {n base r:Nat} {ρ ρ':Rho} {W:World} {b:PB} (hρ:∀ r,r < n→ρ r=ρ' r) (hr:r < n) (hb:b.lt n=true) (h:b.ok base ρ r W):b.ok base ρ' r W:=by
 cases b with
 | box ty cs =>
  obtain ⟨g,h1,h2,h3⟩:=h
  refine ⟨g,by rw [← hρ r hr];exact h1,h2,?_⟩
  simp only [PB.lt,List.all_eq_true] at hb
  rw [h3]
  have:cs.map (·.conc ρ)=cs.map (·.conc ρ'):=List.map_congr_left fun c hc=>SC.conc_congr hρ (hb c hc)
  rw [this]
 | row e sz m xs =>
  have h:W.ownsRow base e sz (ρ r) m xs:=h
  rw [hρ r hr] at h
  exact h
theorem PB.ok_lt {base r g:Nat} {ρ:Rho} {W:World} {b:PB} (h:b.ok base ρ r W) (ha:PB.at ρ r g):base≤g∧g < W.heap.size:=by
 cases b with
 | box ty cs =>
  obtain ⟨g',h1,h2,h3⟩:=h
  have:g=g':=zbW ha (.inl h1)
  subst this
  exact ⟨h2,(Array.getElem?_eq_some_iff.1 h3).1⟩
 | row e sz m xs =>
  have h:W.ownsRow base e sz (ρ r) m xs:=h
  rcases ha with ha|⟨n,c,ha⟩
  ·rcases h.2 with ⟨h1,_⟩|⟨g',cap,cur,h1,_⟩ <;> rw [h1] at ha <;> cases ha
  ·exact h.lt g (by rw [ha];rfl)
theorem PB.ok_keep {base r:Nat} {ρ:Rho} {W W':World} {b:PB} (h:b.ok base ρ r W) (hk:∀ g,PB.at ρ r g→W'.heap[g]?=W.heap[g]?):b.ok base ρ r W':=by
 cases b with
 | box ty cs =>
  obtain ⟨g',h1,h2,h3⟩:=h
  exact ⟨g',h1,h2,(hk g' (.inl h1)).trans h3⟩
 | row e sz m xs =>
  have h:W.ownsRow base e sz (ρ r) m xs:=h
  refine ⟨h.1,?_⟩
  rcases h.2 with h2|⟨g,cap,cur,h1,h2,h3,h4⟩
  ·exact .inl h2
  ·exact .inr ⟨g,cap,cur,h1,h2,(hk g (.inr ⟨_,_,h1⟩)).trans h3,h4⟩
section
variable {P:Program} {W0:Base} {h0:Hp} {N nx:Nat} {ρ:Rho} {p p2:List (Nat × PB)} {h:Hp} {W W':World} {e:Env} {a:Act}
theorem FOk.congr {ρ':Rho} (hf:FOk N ρ e a) (he:zam nx e=true) (hρ:∀ r,r < nx→ρ r=ρ' r):FOk N ρ' e a:=by
 refine ⟨hf.1,hf.2.1,fun t c sv hl=>?_⟩
 rw [hf.2.2 t c sv hl,SV.conc_congr hρ (zan he hl)]
theorem FOk.put {d:Nat} {c:Bool} {sv:SV} {v:Value} (hf:FOk N ρ e a) (hd:d < N) (hv:v=if c=true then sv.conc ρ else undef):FOk N ρ ((d,c,sv) :: e) (a.put (some d) v):=by
 refine ⟨hf.1,by simp [Act.put,hf.2.1],fun t c' sv' hl=>?_⟩
 simp only [look] at hl
 split at hl
 ·rename_i hdt
  subst hdt
  simp only [Option.some.injEq,Prod.mk.injEq] at hl
  obtain ⟨rfl,rfl⟩:=hl
  simp [Act.put,hf.2.1,hd,hv]
 ·rename_i hdt
  rw [← hf.2.2 t c' sv' hl]
  simp only [Act.put]
  rw [Array.getElem?_setIfInBounds_ne hdt]
theorem WOk.add (hW:WOk W0 h0 ρ p h W) (hl:pbLt nx p=true) (hsub:∀ r b,look r p2=some b→look r p=some b) {v:Value} {b:PB}
  (hb:BelowO W0 W') (hs:Sees h W') (hw:∀ g,atV v g→W0.own g) (hk:∀ r b,look r p2=some b→b.ok 0 ρ r W')
  (ho:b.ok 0 (upd ρ nx v) nx W') (ha:∀ g,atV v g→h g=none) (hd:∀ r b' g,look r p2=some b'→PB.at ρ r g→¬ atV v g) :
  WOk W0 h0 (upd ρ nx v) ((nx,b) :: p2) h W':=by
 have hlt:∀ r b',look r p2=some b'→r < nx∧b'.lt nx=true:=fun r b' hr=>zao hl (hsub r b' hr)
 have ne:∀ r b',look r p2=some b'→upd ρ nx v r=ρ r:=fun r b' hr=>(zbU ρ nx v r (hlt r b' hr).1).symm
 have cases_:∀ r b',look r ((nx,b) :: p2)=some b'→(r=nx∧b'=b)∨(nx ≠ r∧look r p2=some b'):=by
  intro r b' hr
  simp only [look] at hr
  split at hr
  ·rename_i hn;exact .inl ⟨hn.symm,by simpa using hr.symm⟩
  ·rename_i hn;exact .inr ⟨hn,hr⟩
 refine ⟨hb,hs,hW.ext,hW.new,fun r b' g hr hat=>?_,fun r b' hr=>?_,fun r b' g hr hat=>?_,fun r b1 r' b2 g hr hr' hat hat'=>?_⟩
 ·rcases cases_ r b' hr with ⟨rfl,rfl⟩|⟨hn,hr⟩
  ·exact hw g (by rw [zbV,zbT] at hat;exact hat)
  ·rw [zbV,ne r b' hr] at hat
   exact hW.own r b' g (hsub r b' hr) hat
 ·rcases cases_ r b' hr with ⟨rfl,rfl⟩|⟨hn,hr⟩
  ·exact ho
  ·exact PB.ok_congr (zbU ρ nx v) (hlt r b' hr).1 (hlt r b' hr).2 (hk r b' hr)
 ·rcases cases_ r b' hr with ⟨rfl,rfl⟩|⟨hn,hr⟩
  ·exact ha g (by rw [zbV,zbT] at hat;exact hat)
  ·rw [zbV,ne r b' hr] at hat
   exact hW.apart r b' g (hsub r b' hr) hat
 ·rcases cases_ r b1 hr with ⟨q1,q2⟩|⟨hn,kr⟩ <;> rcases cases_ r' b2 hr' with ⟨q3,q4⟩|⟨hn',kr'⟩
  ·rw [q1,q3]
  ·rw [q1,zbV,zbT] at hat
   rw [zbV,ne r' b2 kr'] at hat'
   exact (hd r' b2 g kr' hat' hat).elim
  ·rw [q3,zbV,zbT] at hat'
   rw [zbV,ne r b1 kr] at hat
   exact (hd r b1 g kr hat hat').elim
  ·rw [zbV,ne r b1 kr] at hat
   rw [zbV,ne r' b2 kr'] at hat'
   exact hW.distinct r b1 r' b2 g (hsub r b1 kr) (hsub r' b2 kr') hat hat'
theorem zbX (hs:Sees h W) {g:Nat} (hg:W.heap.size≤g):h g=none:=by
 cases hh:h g with
 | none=>rfl
 | some o =>
  have:=hs g o hh
  rw [Array.getElem?_eq_none hg] at this
  cases this
theorem zbY (hs:Sees h W) (hk:∀ g,h g ≠ none→W'.heap[g]?=W.heap[g]?):Sees h W':=fun b o hb=>by
 rw [hk b (by rw [hb];simp)]
 exact hs b o hb
theorem WOk.new_ (hW:WOk W0 h0 ρ p h W) (hl:pbLt nx p=true) {v:Value} {b:PB} (hb:Below W.heap.size W W') (hv:∀ g,atV v g→g=W.heap.size)
  (ho:b.ok 0 (upd ρ nx v) nx W'):WOk W0 h0 (upd ρ nx v) ((nx,b) :: p) h W':=by
 refine hW.add hl (fun _ _ x=>x) (hW.below.trans (hb.mono hW.below.size)) (zbY hW.sees fun g hg=>?_) (fun g hg=>by rw [hv g hg];exact W0.big _ hW.below.size) (fun r b' hr=>?_) ho (fun g hg=>?_) (fun r b' g hr hat hv'=>?_)
 ·have:g < W.heap.size:=by
   rcases Nat.lt_or_ge g W.heap.size with hlt|hge
   ·exact hlt
   ·exact (hg (zbX hW.sees hge)).elim
  exact hb.block g this
 ·exact PB.ok_keep (hW.priv r b' hr) fun g hg=>hb.block g (PB.ok_lt (hW.priv r b' hr) hg).2
 ·rw [hv g hg];exact zbX hW.sees (Nat.le_refl _)
 ·have:=(PB.ok_lt (hW.priv r b' hr) hat).2
  rw [hv g hv'] at this
  omega
theorem WOk.grow {h':Hp} (hW:WOk W0 h0 ρ p h W) (hb:Below W.heap.size W W') (hle:h.le h') (hs:Sees h' W') (hn:∀ b o,h' b=some o→h b=none→W.heap.size≤b) :
  WOk W0 h0 ρ p h' W':=by
 refine ⟨hW.below.trans (hb.mono hW.below.size),hs,fun b o h1 h2=>hle b o (hW.ext b o h1 h2),fun b o hb' h0b=>?_,hW.own,fun r b' hr=>?_,fun r b' g hr hat=>?_,hW.distinct⟩
 ·cases hh:h b with
  | some o'=>exact hW.new b o' hh h0b
  | none=>exact W0.big b (Nat.le_trans hW.below.size (hn b o hb' hh))
 ·exact PB.ok_keep (hW.priv r b' hr) fun g hg=>hb.block g (PB.ok_lt (hW.priv r b' hr) hg).2
 ·cases hh:h' g with
  | none=>rfl
  | some o =>
   have h1:=hn g o hh (hW.apart r b' g hr hat)
   have h2:=(PB.ok_lt (hW.priv r b' hr) hat).2
   omega
theorem WOk.drop (hW:WOk W0 h0 ρ p h W) (hsub:∀ r b,look r p2=some b→look r p=some b):WOk W0 h0 ρ p2 h W :=
 ⟨hW.below,hW.sees,hW.ext,hW.new,fun r b g hr=>hW.own r b g (hsub r b hr),fun r b hr=>hW.priv r b (hsub r b hr),fun r b g hr=>hW.apart r b g (hsub r b hr),fun r b r' b' g hr hr'=>hW.distinct r b r' b' g (hsub r b hr) (hsub r' b' hr')⟩
theorem zbZ (W:World) (o:Obj):Below W.heap.size W (W.alloc o):=(Below.refl _ _).alloc (Nat.le_refl _) o
def setP (r:Nat) (b:PB):List (Nat × PB)→List (Nat × PB)
 | []=>[]
 | (k,x) :: l=>if k=r then (k,b) :: l else (k,x) :: setP r b l
theorem zb0 {r r':Nat} {b b0:PB}:∀ {p:List (Nat × PB)},look r p=some b0→look r' (setP r b p)=if r'=r then some b else look r' p
 | [],h=>by cases h
 | (k,x) :: l,h=>by
  simp only [look] at h
  by_cases hk:k=r
  ·subst hk
   simp only [setP,if_true,look]
   by_cases hr:k=r'
   ·subst hr;simp
   ·rw [if_neg hr,if_neg (Ne.symm hr),if_neg hr]
  ·rw [if_neg hk] at h
   simp only [setP,if_neg hk,look]
   by_cases hr:k=r'
   ·subst hr;rw [if_pos rfl,if_neg hk,if_pos rfl]
   ·rw [if_neg hr,if_neg hr,zb0 h]
theorem zb1 {r n:Nat} {b:PB} (hb:b.lt n=true):∀ {p:List (Nat × PB)},pbLt n p=true→pbLt n (setP r b p)=true
 | [],_=>rfl
 | (k,x) :: l,h=>by
  simp only [pbLt,jJ] at h
  by_cases hk:k=r
  ·simp [setP,hk,pbLt,hb,h.2];simpa [hk] using h.1.1
  ·simp only [setP,if_neg hk,pbLt,jJ]
   exact ⟨h.1,zb1 hb h.2⟩
def zb2 (r:Nat):List (Nat × PB)→List (Nat × PB)
 | []=>[]
 | (k,x) :: l=>if k=r then zb2 r l else (k,x) :: zb2 r l
theorem zb3 {r r':Nat} {b:PB}:∀ {p:List (Nat × PB)},look r' (zb2 r p)=some b→look r' p=some b∧r' ≠ r
 | [],h=>by cases h
 | (k,x) :: l,h=>by
  by_cases hk:k=r
  ·simp only [zb2,hk,if_true] at h
   have:=zb3 h
   refine ⟨?_,this.2⟩
   simp only [look,hk]
   rw [if_neg (Ne.symm this.2)]
   exact this.1
  ·simp only [zb2,hk,if_false,look] at h ⊢
   split at h
   ·rename_i hkr;subst hkr;rw [if_pos rfl];exact ⟨h,hk⟩
   ·rename_i hkr;rw [if_neg hkr];exact zb3 h
theorem zb4 {r n:Nat}:∀ {p:List (Nat × PB)},pbLt n p=true→pbLt n (zb2 r p)=true
 | [],_=>rfl
 | (k,x) :: l,h=>by
  simp only [pbLt,jJ] at h
  by_cases hk:k=r
  ·simp only [zb2,hk,if_true];exact zb4 h.2
  ·simp only [zb2,hk,if_false,pbLt,jJ];exact ⟨h.1,zb4 h.2⟩
theorem WOk.set_ (hW:WOk W0 h0 ρ p h W) {r g:Nat} {b0 b:PB} (hr:look r p=some b0) (hat:PB.at ρ r g) (cs:Array Value)
  (ho:b.ok 0 ρ r (W.setRow g cs)):WOk W0 h0 ρ (setP r b p) h (W.setRow g cs):=by
 have hg:=PB.ok_lt (hW.priv r b0 hr) hat
 have hn:=hW.apart r b0 g hr hat
 have other:∀ k,k ≠ g→(W.setRow g cs).heap[k]?=W.heap[k]?:=fun k hk=>setRow_other W g k cs hk
 refine ⟨hW.below.step rfl rfl rfl (by simp [World.setRow]) fun k hk _=>other k (fun e=>hk (by rw [e];exact hW.own r b0 g hr hat)),zbY hW.sees fun k hk=>other k (fun e=>hk (by rw [e];exact hn)),hW.ext,hW.new,fun r' b' g' hr' hat'=>?_,fun r' b' hr'=>?_,fun r' b' g' hr' hat'=>?_,fun r1 b1 r2 b2 g' h1 h2 a1 a2=>?_⟩
 ·rw [zb0 hr] at hr'
  split at hr'
  ·rename_i e;subst e;exact hW.own r' b0 g' hr hat'
  ·exact hW.own r' b' g' hr' hat'
 ·rw [zb0 hr] at hr'
  split at hr'
  ·rename_i e;subst e;simp only [Option.some.injEq] at hr';subst hr';exact ho
  ·rename_i e
   refine PB.ok_keep (hW.priv r' b' hr') fun g' hg'=>other g' (fun ee=>?_)
   subst ee
   exact e (hW.distinct r' b' r b0 g' hr' hr hg' hat)
 ·rw [zb0 hr] at hr'
  split at hr'
  ·rename_i e;subst e;exact hW.apart r' b0 g' hr hat'
  ·exact hW.apart r' b' g' hr' hat'
 ·have l1:∃ b,look r1 p=some b:=by
   rw [zb0 hr] at h1
   split at h1
   ·rename_i e;subst e;exact ⟨_,hr⟩
   ·exact ⟨_,h1⟩
  have l2:∃ b,look r2 p=some b:=by
   rw [zb0 hr] at h2
   split at h2
   ·rename_i e;subst e;exact ⟨_,hr⟩
   ·exact ⟨_,h2⟩
  obtain ⟨b1',l1⟩:=l1
  obtain ⟨b2',l2⟩:=l2
  exact hW.distinct r1 b1' r2 b2' g' l1 l2 a1 a2
end
open Go Go.RowKit
@[irreducible] def Ct (P:Program) (f:FuncId) (args:List Value) (h:Hp) (R:Value→Hp→Prop):Prop :=
 (∀ A W,(callFunc f A).run P W=.ok (.enter f A) W) ∧
 ∀ W,Sees h W→Calls P f args.toArray W fun e W'=>∃ v h',e=.returned v∧R v h'∧Below W.heap.size W W'∧h.le h'∧Sees h' W'∧∀ b o,h' b=some o→h b=none→W.heap.size≤b
theorem Ct.mono {P:Program} {f:FuncId} {args:List Value} {h:Hp} {R R':Value→Hp→Prop} (H:Ct P f args h R) (hr:∀ v h',h.le h'→R v h'→R' v h'):Ct P f args h R':=by
 unfold Ct at *
 exact ⟨H.1,fun W hs=>(H.2 W hs).mono fun _ _ ⟨v,h',he,r,b,l,s,n⟩=>⟨v,h',he,hr v h' l r,b,l,s,n⟩⟩
def Hp.ins (h:Hp) (g:Nat) (o:Obj):Hp:=fun b=>if b=g then some o else h b
theorem Hp.ins_le {h:Hp} {g:Nat} {o:Obj} (hg:h g=none):h.le (h.ins g o):=by
 intro b x hb
 simp only [Hp.ins]
 split
 ·rename_i e;subst e;rw [hg] at hb;cases hb
 ·exact hb
def zb5 (e:Env) (d:Option Nat) (c:Bool) (sv:SV):Env :=
 match d with
 | none=>e
 | some d=>(d,c,sv) :: e
def St.put (st:St) (d:Option Nat) (c:Bool) (sv:SV):St:=⟨zb5 st.e d c sv,st.p,st.h,st.nx⟩
def zb6:List Oper→Nat→Option Tmp
 | [],_=>none
 | o :: _,0=>o.dst
 | _ :: l,j+1=>zb6 l j
def onG (x:Option (Bool × SV)) (want:Bool) (K:Bool→Prop):Prop :=
 match x with
 | some (c,sv)=>(c=true→Value.isB sv.val)∧K (c && (Value.B sv.val == want))
 | none=>False
def onD (x:Option Tmp) (K:Tmp→Prop):Prop :=
 match x with
 | some d=>K d
 | none=>False
def vgd (ops:List Oper) (st:St) (gd:Option (Nat × Bool)) (K:Bool→Prop):Prop :=
 match gd with
 | none=>K true
 | some (j,want)=>onD (zb6 ops j) fun d=>onG (look d st.e) want K
def SC.okc (p:List (Nat × PB)):SC→Bool
 | .v x=>x.oneCell'
 | .p _ _=>true
 | .s r=>match look r p with
  | some (.row ..)=>true
  | _=>false
def zb7:SC→Bool|.v _=>true|_=>false
def SV.plain:SV→Bool
 | .c x=>zb7 x
 | .g cs=>cs.all zb7
def SV.pv:SV→Value
 | .c x=>x.val
 | .g cs=>.agg (cs.map (·.val)).toArray
theorem SV.pv_conc {x:SV} (h:x.plain=true) (ρ:Rho):x.conc ρ=x.pv:=by
 cases x with
 | c x=>cases x <;> simp_all [SV.plain,zb7,SV.pv,SC.val]
 | g cs =>
  simp only [SV.plain,List.all_eq_true] at h
  simp only [zal,SV.pv]
  congr 2
  exact List.map_congr_left fun c hc=>by have:=h c hc;cases c <;> simp_all [zb7,SC.val]
def zb8 (P:Program) (p:List (Nat × PB)) (t:TypeId) (r o:Nat) (b:Option PB) (x:SV) (K:List (Nat × PB)→Prop):Prop :=
 match b with
 | some (.box ty cs)=>x.cells.length=szT P t∧o+szT P t≤cs.length∧(x.cells.all (·.okc p))=true∧K (setP r (.box ty (zbG o x.cells cs)) p)
 | some (.row e sz n xs)=>x.cells.length=szT P t∧o+szT P t≤xs.length∧(x.cells.all fun c=>zb7 c && c.val.oneCell')=true∧K (setP r (.row e sz n (zbG o (x.cells.map (·.val)) xs)) p)
 | none=>False
def zb9 (P:Program) (p:List (Nat × PB)) (t:TypeId) (a x:SV) (K:List (Nat × PB)→Prop):Prop :=
 hasT P t=true∧match a with
 | .c (.p r o)=>zb8 P p t r o (look r p) x K
 | _=>False
def zca (P:Program) (t:TypeId) (K:List Value→Prop):Prop :=
 match zbF P t with
 | some z=>K z
 | none=>False
def zcb (sz:Nat):Nat→List Nat→List SV→Prop
 | _,[],[]=>True
 | i,j :: js,x :: xs=>j=i∧x.cells.length=sz∧x.plain=true∧zcb sz (i+1) js xs
 | _,_,_=>False
def Hp.ldL (h:Hp) (y:Value) (size:Nat):Option (List Value):=if Value.L y=0 then some [] else h.lds (Value.A y) (Value.L y * size)
def zcc (P:Program) (t:TypeId) (K:TypeId→Prop):Prop :=
 match zaX P t with
 | some e=>hasT P e=true∧K e
 | none=>False
def vsrc (st:St) (sz:Nat) (x:SV) (K:Nat→List Value→Prop):Prop :=
 match x with
 | .c (.v y)=>Value.isA y∧(st.h.ldL y sz).isSome=true∧K (Value.L y) ((st.h.ldL y sz).getD [])
 | .c (.s r)=>match look r st.p with
  | some (.row _ sz' m ys)=>sz'=sz∧K m ys
  | _=>False
 | _=>False
def vdst (st:St) (e:TypeId) (sz:Nat) (x:SV) (K:Nat→List Value→List (Nat × PB)→Prop):Prop :=
 match x with
 | .c (.s r)=>match look r st.p with
  | some (.row e' sz' n xs)=>e'=e∧sz'=sz∧K n xs (zb2 r st.p)
  | _=>False
 | .c (.v (.slice none 0 0))=>K 0 [] st.p
 | _=>False
def zcd (P:Program) (st:St) (t:TypeId) (s x:SV) (K:TypeId→Nat→Nat→List Value→List (Nat × PB)→Prop):Prop :=
 zcc P t fun e=>zca P e fun z=>z.length=szT P e∧0 < szT P e ∧
  vsrc st (szT P e) x fun m ys=>vdst st e (szT P e) s fun n xs p=>(∀ u ∈ ys,u.oneCell'=true)∧n+m≤maxLen∧(n+m) * P.bytesOf e≤140737488355328 ∧
   K e (szT P e) (n+m) (xs ++ ys) p
def zce (P:Program) (st:St) (t:TypeId) (y:Value) (x:SV) (K:TypeId→Nat→Nat→List Value→Prop):Prop :=
 zcc P t fun e=>zca P e fun z=>z.length=szT P e∧0 < szT P e∧Value.isA y∧Value.C y=Value.L y∧(Value.A y).isSome=true∧(st.h.ldL y (szT P e)).isSome=true ∧
  vsrc st (szT P e) x fun m ys=>0 < m∧(∀ u ∈ ys,u.oneCell'=true)∧Value.L y+m≤maxLen∧(Value.L y+m) * P.bytesOf e≤140737488355328 ∧
   K e (szT P e) (Value.L y+m) ((st.h.ldL y (szT P e)).getD [] ++ ys)
def zcf:Value→Bool
 | .slice none 0 0=>true
 | _=>false
def zcg (P:Program) (st:St) (t:TypeId) (s x:SV) (K:TypeId→Nat→Nat→List Value→List (Nat × PB)→Prop):Prop :=
 match s with
 | .c (.v y)=>if zcf y=true then zcd P st t (.c (.v (.slice none 0 0))) x K else zce P st t y x fun e sz n xs=>K e sz n xs st.p
 | .c (.s r)=>zcd P st t (.c (.s r)) x K
 | _=>False
def zch:Operand→Bool
 | .const (.int _ 0)=>true
 | _=>false
def zci (P:Program) (st:St) (t:TypeId) (l c:Operand) (K:TypeId→Nat→Nat→List Value→Prop):Prop :=
 zcc P t fun e=>zca P e fun z=>z.length=szT P e∧getO st true l fun vl=>getO st true c fun vc =>
  (∃ k,Value.isI k vl.val)∧(∃ k,Value.isI k vc.val)∧0≤Value.I vc.val∧Value.I vc.val≤maxLen∧P.bytesOf e * (Value.I vc.val).toNat≤140737488355328 ∧
  if zch l=true then K e (szT P e) 0 [] else Value.I vl.val=Value.I vc.val∧K e (szT P e) (Value.I vc.val).toNat (madeCells z.toArray ((Value.I vc.val).toNat * szT P e)).toList
@[irreducible] def vfn (P:Program) (st:St) (g:Bool) (f:FuncId) (args:List Value) (K:Value→Hp→Prop):Prop :=
 ∃ R,(g=true→Ct P f args st.h R)∧((g=true∧∀ v h',st.h.le h'→R v h'→K v h')∨((∃ V,(∀ v h',R v h'→v=V∧h'=st.h)∧K V st.h)))
def zcj (P:Program) (st:St) (g:Bool) (vf:SV) (vs:List SV) (K:Value→Hp→Prop):Prop :=
 match vf with
 | .c (.v (.func (.func f) fs cs))=>(vs.all (·.plain))=true∧vfn P st g f (fs.toList ++ (vs.map (·.pv) ++ cs.toList)) K
 | _=>False
def zck (P:Program) (st:St) (o:Oper) (g:Bool) (c:Call) (callee:Callee) (K:St→Prop):Prop :=
 match callee with
 | .value f=>getO st g f fun vf=>zaC st g c.args.toList fun vs=>zcj P st g vf vs fun v h'=>K (St.mk (zb5 st.e o.dst g (.of v)) st.p h' st.nx)
 | .builtin .append=>g=true∧match c.args.toList,c.argTypes.toList with
  | [s,x],[t,t']=>t=t'∧getO st true s fun vs=>getO st true x fun vx =>
   zcg P st t vs vx fun e sz n xs p=>K (St.mk (zb5 st.e o.dst true (.c (.s st.nx))) ((st.nx,.row e sz n xs) :: p) st.h (st.nx+1))
  | _,_=>False
 | .builtin b=>zbO P st g b c.argTypes.toList c.args.toList fun sv=>K (st.put o.dst g sv)
 | _=>False
def zcl (P:Program) (st:St) (o:Oper) (t:TypeId) (n:Nat) (ps:Array (Nat × Operand)) (K:St→Prop):Prop :=
 zaC st true (ps.toList.map (·.2)) fun vs=>zcc P t fun e=>0 < szT P e∧zca P e fun z=>z.length=szT P e∧n * szT P e≤16777216∧ps.toList.length=n∧zcb (szT P e) 0 (ps.toList.map (·.1)) vs ∧
   ∀ b,st.h b=none→K (St.mk (zb5 st.e o.dst true (.c (.v (.slice (some ⟨b,0,none⟩) n n)))) st.p (st.h.ins b (.cells (vs.flatMap fun x=>x.cells.map (·.val)).toArray e (0,0))) st.nx)
def vopG (P:Program) (st:St) (o:Oper) (g:Bool) (op:Op) (K:St→Prop):Prop :=
 match op with
 | .alloc t=>g=true∧zca P t fun z=>K (St.mk (zb5 st.e o.dst true (.c (.p st.nx 0))) ((st.nx,.box t (z.map .v)) :: st.p) st.h (st.nx+1))
 | .box t x=>g=true∧getO st true x fun v=>(v.cells.all (·.okc st.p))=true∧K (St.mk (zb5 st.e o.dst true (.c (.p st.nx 0))) ((st.nx,.box t v.cells) :: st.p) st.h (st.nx+1))
 | .store t a x=>g=true∧o.dst=none∧getO st true a fun va=>getO st true x fun vx=>zb9 P st.p t va vx fun p=>K (St.mk st.e p st.h st.nx)
 | .buildSlice t n ps=>g=true∧zaC st true (ps.toList.map (·.2)) fun vs=>zcc P t fun e=>0 < szT P e∧zca P e fun z=>z.length=szT P e∧n * szT P e≤16777216∧ps.toList.length=n∧zcb (szT P e) 0 (ps.toList.map (·.1)) vs ∧
   K (St.mk (zb5 st.e o.dst true (.c (.s st.nx))) ((st.nx,.row e (szT P e) n (vs.flatMap fun x=>x.cells.map (·.val))) :: st.p) st.h (st.nx+1))
 | .makeSlice t l c=>g=true∧zci P st t l c fun e sz n xs=>K (St.mk (zb5 st.e o.dst true (.c (.s st.nx))) ((st.nx,.row e sz n xs) :: st.p) st.h (st.nx+1))
 | .call c=>zck P st o g c c.callee K
 | .move x=>vq P st g (.move x) fun sv=>K (st.put o.dst g sv)
 | .assign x=>vq P st g (.assign x) fun sv=>K (st.put o.dst g sv)
 | .pick c a b=>vq P st g (.pick c a b) fun sv=>K (st.put o.dst g sv)
 | .load t x=>vq P st g (.load t x) fun sv=>K (st.put o.dst g sv)
 | .nilCheck x=>vq P st g (.nilCheck x) fun sv=>K (st.put o.dst g sv)
 | .binOp b t x y t'=>vq P st g (.binOp b t x y t') fun sv=>K (st.put o.dst g sv)
 | .unOp b t x=>vq P st g (.unOp b t x) fun sv=>K (st.put o.dst g sv)
 | .convert s d x=>vq P st g (.convert s d x) fun sv=>K (st.put o.dst g sv)
 | .fieldAddr t x f=>vq P st g (.fieldAddr t x f) fun sv=>K (st.put o.dst g sv)
 | .field t x f=>vq P st g (.field t x f) fun sv=>K (st.put o.dst g sv)
 | .indexAddr t x i=>vq P st g (.indexAddr t x i) fun sv=>K (st.put o.dst g sv)
 | .index t x i=>vq P st g (.index t x i) fun sv=>K (st.put o.dst g sv)
 | .extract x i=>vq P st g (.extract x i) fun sv=>K (st.put o.dst g sv)
 | .slice t x l u m=>vq P st g (.slice t x l u m) fun sv=>K (st.put o.dst g sv)
 | .build t ps=>vq P st g (.build t ps) fun sv=>K (st.put o.dst g sv)
 | _=>False
def vop (P:Program) (ops:List Oper) (st:St) (o:Oper) (K:St→Prop):Prop :=
 vgd ops st o.guard fun g=>vopG P st o g o.op K
def vops (P:Program) (ops:List Oper):List Oper→St→(St→Prop)→Prop
 | [],st,K=>K st
 | o :: l,st,K=>vop P ops st o fun st'=>vops P ops l st' K
section
variable {P:Program} {W0:Base} {h0:Hp} {N:Nat} {st:St} {g:Bool}
theorem zcm:∀ (ops:List Oper) (j:Nat),zb6 ops j=((ops[j]?).bind (·.dst))
 | [],j=>by simp [zb6]
 | o :: l,0=>by simp [zb6]
 | o :: l,j+1=>by simp [zb6,zcm l j]
theorem wf_e (h:st.wf=true):zam st.nx st.e=true:=by simp only [St.wf,jJ] at h;exact h.1
theorem wf_p (h:st.wf=true):pbLt st.nx st.p=true:=by simp only [St.wf,jJ] at h;exact h.2
theorem zcn {ops:List Oper} {gd:Option (Nat × Bool)} {o:Oper} {K:Bool→Prop} (ho:o.guard=gd) (h:vgd ops st gd K) :
  ∃ g,K g∧∀ ρ a,FOk N ρ st.e a→Region.wanted o (yielded ops.toArray a.tmps)=g:=by
 cases gd with
 | none=>exact ⟨true,h,fun ρ a _=>by simp [Region.wanted,ho]⟩
 | some jw =>
  obtain ⟨j,want⟩:=jw
  simp only [vgd,onD] at h
  split at h
  ·rename_i d hd
   unfold onG at h
   split at h
   ·rename_i c sv hl
    refine ⟨_,h.2,fun ρ a hf=>?_⟩
    have h1:=hf.2.2 d c sv hl
    rw [zcm] at hd
    simp only [Region.wanted,ho,yielded,List.getElem?_toArray,hd,Option.bind_some,h1]
    cases c with
    | false=>simp [undef]
    | true =>
     rw [if_pos rfl,zay (ρ:=ρ) (h.1 rfl)]
     cases Value.B sv.val <;> cases want <;> rfl
   ·cases h
  ·cases h
theorem Conc.put_ {ρ:Rho} {a:Act} {W:World} {d:Option Nat} {c:Bool} {sv:SV} {v:Value} {p:List (Nat × PB)} {h:Hp} {nx:Nat}
  (hf:FOk N ρ st.e a) (hW:WOk W0 h0 ρ p h W) (hp:pbLt nx p=true) (he:zam nx st.e=true) (hd:∀ d',d=some d'→d' < N) (hl:sv.lt nx=true) (hv:v=if c=true then sv.conc ρ else undef) :
  Conc W0 h0 N (St.mk (zb5 st.e d c sv) p h nx) (a.put d v) W:=by
 cases d with
 | none=>exact ⟨ρ,hf,hW,by simp [St.wf,zb5,hp,he]⟩
 | some d=>exact ⟨ρ,hf.put (hd d rfl) hv,hW,by simp [St.wf,zb5,hp,he,zam,hl]⟩
theorem zco {S:Sem Value} {v:Value} {W W':World} (h:S.run P W=.ok v W'):(do pure (Next.value (← S)):Sem Next).run P W=.ok (.value v) W':=by
 simp [Sem.run_bind,h]
theorem zcp {ρ:Rho} {W:World} {p:List (Nat × PB)} {h:Hp} (hW:WOk W0 h0 ρ p h W) {c:SC} (hc:c.okc p=true):(c.conc ρ).oneCell'=true:=by
 cases c with
 | v x=>exact hc
 | p r o=>rfl
 | s r =>
  simp only [SC.okc] at hc
  split at hc
  ·rename_i e sz n xs hl
   have hb:W.ownsRow 0 e sz (ρ r) n xs:=hW.priv r _ hl
   rcases hb.2 with ⟨h1,_⟩|⟨gg,cap,cur,h1,_⟩ <;> simp [h1,Value.oneCell']
  ·cases hc
theorem zcq {ρ:Rho} {W:World} {p:List (Nat × PB)} {h:Hp} (hW:WOk W0 h0 ρ p h W) {x:SV} (hc:(x.cells.all (·.okc p))=true):(x.conc ρ).cells=(x.cells.map (·.conc ρ)).toArray:=by
 rcases SV.cells_conc ρ x with h|⟨r,rfl⟩
 ·exact h
 ·have h1:=zcp hW (c:=.s r) (by simpa [SV.cells] using hc)
  simp only [zaj] at h1
  simp only [zak,zaj,SV.cells,List.map_cons,List.map_nil]
  cases hv:ρ r <;> rw [hv] at h1 <;> first|rfl|cases h1
theorem Hp.ldL_spec {h:Hp} {y:Value} {sz:Nat} (_hy:Value.isA y) (hs:(h.ldL y sz).isSome=true) :
  ∃ l,h.ldL y sz=some l∧l.length=Value.L y * sz∧(0 < Value.L y→0 < sz→∃ ad,Value.A y=some ad)∧∀ W,Sees h W→∀ ad,Value.A y=some ad→∀ j u,l[j]?=some u→W.cell? (ad.add j)=some u:=by
 obtain ⟨l,hl⟩:=Option.isSome_iff_exists.1 hs
 refine ⟨l,hl,?_⟩
 unfold Hp.ldL at hl
 split at hl
 ·rename_i h0
  simp only [Option.some.injEq] at hl
  subst hl
  exact ⟨by simp [h0],fun h1=>by omega,fun _ _ _ _ j u hu=>by simp at hu⟩
 ·cases hA:Value.A y with
  | none=>rw [hA] at hl;cases hl
  | some ad =>
   rw [hA] at hl
   obtain ⟨h1,h2⟩:=zac (show h.cellsAt ad 0 _=some l from hl)
   refine ⟨h1,fun _ _=>⟨ad,rfl⟩,fun W hs ad' he j u hu=>?_⟩
   simp only [Option.some.injEq] at he
   subst he
   exact zaa hs (by simpa using h2 j u hu)
theorem zcr {o:Oper} {a:Act} {W W':World} {v:Value} {next:Act→World→Prop} {Q:Exit→Act→World→Prop} (hr:(execOp a.eval o).run P W=.ok (.value v) W') (h:next (a.put o.dst v) W'):o.wp P a W next Q:=by
 unfold Oper.wp
 rw [hr]
 exact h
theorem zcs {t:TypeId} {K:TypeId→Prop} (h:zcc P t K):∃ e,P.underlying t=some (.slice e)∧hasT P e=true∧K e:=by
 unfold zcc at h
 split at h
 ·rename_i e he;exact ⟨e,zbc he,h.1,h.2⟩
 ·cases h
theorem zct {t:TypeId} {K:List Value→Prop} (h:zca P t K):∃ z,zbF P t=some z∧K z:=by
 unfold zca at h
 split at h
 ·rename_i z hz;exact ⟨z,hz,h⟩
 ·cases h
theorem zcu {t:TypeId} {z:List Value} (h:zbF P t=some z):∃ (i:TypeInfo) (v:Value),P.info? t=some i∧i.zero=some v∧v.cells=z.toArray∧i.size=szT P t∧i.bytes=P.bytesOf t:=by
 unfold zbF at h
 obtain ⟨v,h1,h2⟩:=Option.map_eq_some_iff.1 h
 obtain ⟨i,hi,hz⟩:=Option.bind_eq_some_iff.1 h1
 exact ⟨i,v,hi,hz,by rw [← h2],by simp [szT,Program.cellsOf,hi],by simp [Program.bytesOf,hi]⟩
end
open Go Go.RowKit
section
variable {P:Program} {W0:Base} {h0:Hp} {N:Nat} {st:St} {g:Bool}
def Runs (P:Program) (W0:Base) (h0:Hp) (N:Nat) (o:Oper) (K:St→Prop) (_ρ:Rho) (a:Act) (W:World):Prop :=
 ∃ v W',(execOp a.eval o).run P W=.ok (.value v) W'∧∃ st',K st'∧Conc W0 h0 N st' (a.put o.dst v) W'
theorem SV.plain_cells {x:SV} (h:x.plain=true) (ρ:Rho):x.cells.map (·.conc ρ)=x.cells.map (·.val):=by
 apply List.map_congr_left
 intro c hc
 cases x with
 | c x=>cases x with
  | v x=>cases x <;> simp [SV.cells] at hc <;> first|(subst hc;rfl)|(obtain ⟨y,_,rfl⟩:=hc;rfl)
  | _=>cases h
 | g cs =>
  simp only [SV.plain,List.all_eq_true] at h
  have:=h c hc
  cases c <;> first|rfl|cases this
theorem zcv {t:TypeId} {ρ:Rho} {W:World} {p:List (Nat × PB)} {h:Hp} {nx:Nat} {cs:List SC} {z:Array Value} (hW:WOk W0 h0 ρ p h W) (hp:pbLt nx p=true) (hl:∀ c ∈ cs,c.lt nx=true) (hz:z=(cs.map (·.conc ρ)).toArray) :
  WOk W0 h0 (upd ρ nx (.pointer (some ⟨W.heap.size,0,none⟩))) ((nx,.box t cs) :: p) h (W.alloc (.cells z t)):=by
 refine hW.new_ hp (zbZ W _) (fun g hg=>?_) ⟨W.heap.size,zbT _ _ _,Nat.zero_le _,?_⟩
 ·rcases hg with hg|⟨n,c,hg⟩
  ·simpa using hg.symm
  ·cases hg
 ·rw [heap_alloc_new,hz]
  have:cs.map (·.conc ρ)=cs.map (·.conc (upd ρ nx (.pointer (some ⟨W.heap.size,0,none⟩)))):=List.map_congr_left fun c hc=>SC.conc_congr (zbU _ _ _) (hl c hc)
  rw [this]
theorem zcw {d:Option Nat} {t:TypeId} {ρ:Rho} {a:Act} {W:World} {cs:List SC} {z:Array Value} (hw:st.wf=true) (hd:∀ d',d=some d'→d' < N) (hf:FOk N ρ st.e a) (hW:WOk W0 h0 ρ st.p st.h W)
  (hl:∀ c ∈ cs,c.lt st.nx=true) (hz:z=(cs.map (·.conc ρ)).toArray) :
  Conc W0 h0 N (St.mk (zb5 st.e d true (.c (.p st.nx 0))) ((st.nx,.box t cs) :: st.p) st.h (st.nx+1)) (a.put d (.pointer (some ⟨W.heap.size,0,none⟩))) (W.alloc (.cells z t)):=by
 have hW':=zcv (t:=t) hW (wf_p hw) hl hz
 have hf':=hf.congr (wf_e hw) (zbU ρ st.nx (.pointer (some ⟨W.heap.size,0,none⟩)))
 have hle:st.nx≤st.nx+1:=Nat.le_succ _
 have hcs:cs.all (·.lt (st.nx+1))=true:=by
  simp only [List.all_eq_true]
  intro c hc
  have:=hl c hc
  cases c <;> simp_all [SC.lt] <;> omega
 refine Conc.put_ (c:=true) (sv:=.c (.p st.nx 0)) (h:=st.h) hf' hW' (by simp [pbLt,PB.lt,hcs,zaq hle (wf_p hw)]) (zap hle (wf_e hw)) hd (decide_eq_true (Nat.lt_succ_self _)) ?_
 simp [zbT,blk]
theorem zcx {o:Oper} {t:TypeId} {K:St→Prop} {ρ:Rho} {a:Act} {W:World} (ho:o.op=.alloc t) (hw:st.wf=true) (hd:∀ d',o.dst=some d'→d' < N) (hf:FOk N ρ st.e a) (hW:WOk W0 h0 ρ st.p st.h W)
  (h:zca P t fun z=>K (St.mk (zb5 st.e o.dst true (.c (.p st.nx 0))) ((st.nx,.box t (z.map .v)) :: st.p) st.h (st.nx+1))):Runs P W0 h0 N o K ρ a W:=by
 obtain ⟨z,hz,h⟩:=zct h
 obtain ⟨v,hv,hrun⟩:=zbL hz
 refine ⟨.pointer (some ⟨W.heap.size,0,none⟩),W.alloc (.cells v.cells t),?_,_,h,zcw hw hd hf hW (fun c hc=>?_) ?_⟩
 ·simp only [execOp,ho]
  have:(Instr.alloc t true (.tuple #[])).run P W=.ok (.pointer (some ⟨W.heap.size,0,none⟩)) (W.alloc (.cells v.cells t)):=by
   simp [Instr.alloc,Sem.run_bind,hrun,newVar,newRow]
  simp [Sem.run_bind,this]
 ·obtain ⟨y,_,rfl⟩:=List.mem_map.1 hc;rfl
 ·simp [List.map_map,Function.comp_def,← hv]
theorem zcy {o:Oper} {t:TypeId} {x:Operand} {K:St→Prop} {ρ:Rho} {a:Act} {W:World} (ho:o.op=.box t x) (hw:st.wf=true) (hd:∀ d',o.dst=some d'→d' < N) (hf:FOk N ρ st.e a) (hW:WOk W0 h0 ρ st.p st.h W)
  (h:getO st true x fun v=>(v.cells.all (·.okc st.p))=true∧K (St.mk (zb5 st.e o.dst true (.c (.p st.nx 0))) ((st.nx,.box t v.cells) :: st.p) st.h (st.nx+1))):Runs P W0 h0 N o K ρ a W:=by
 obtain ⟨v,⟨hk,h⟩,hl,hx⟩:=zaB (N:=N) hw h
 replace hx:=hx rfl ρ a hf
 refine ⟨.pointer (some ⟨W.heap.size,0,none⟩),W.alloc (.cells (v.conc ρ).cells t),?_,_,h,zcw hw hd hf hW (fun c hc=>SV.cells_lt hl c hc) (zcq hW hk)⟩
 simp only [execOp,ho,hx]
 have:(Instr.box t (v.conc ρ)).run P W=.ok (.pointer (some ⟨W.heap.size,0,none⟩)) (W.alloc (.cells (v.conc ρ).cells t)):=by
  simp [Instr.box,Sem.run_bind,newVar,newRow]
 simp [Sem.run_bind,this]
theorem zcz {d:Option Nat} {ρ:Rho} {a:Act} {W':World} {e:TypeId} {sz n:Nat} {xs:List Value} {v:Value} {p:List (Nat × PB)} (hw:st.wf=true) (hd:∀ d',d=some d'→d' < N) (hf:FOk N ρ st.e a)
  (hp:pbLt st.nx p=true) (hW':WOk W0 h0 (upd ρ st.nx v) ((st.nx,.row e sz n xs) :: p) st.h W') :
  Conc W0 h0 N (St.mk (zb5 st.e d true (.c (.s st.nx))) ((st.nx,.row e sz n xs) :: p) st.h (st.nx+1)) (a.put d v) W':=by
 have hf':=hf.congr (wf_e hw) (zbU ρ st.nx v)
 have hle:st.nx≤st.nx+1:=Nat.le_succ _
 refine Conc.put_ (c:=true) (sv:=.c (.s st.nx)) (h:=st.h) hf' hW' (by simp [pbLt,PB.lt,zaq hle hp]) (zap hle (wf_e hw)) hd (decide_eq_true (Nat.lt_succ_self _)) ?_
 simp [zbT]
theorem zcA {v:Value} {k:Nat} (h:atV v k) {g:Option Nat} (hv:v.ownBlock=g):g=some k∨∃ a,v=.pointer a:=by
 rcases h with h|⟨n,c,h⟩
 ·exact .inr ⟨_,h⟩
 ·subst h;left;rw [← hv];rfl
theorem zcB {ρ:Rho} {W W':World} {e:TypeId} {sz n:Nat} {xs:List Value} {v:Value} {p:List (Nat × PB)} {h:Hp} {nx:Nat} (hW:WOk W0 h0 ρ p h W) (hp:pbLt nx p=true)
  (hown:W'.ownsRow 0 e sz v n xs) (hg:W.grownBy W' none) (hv:v.ownBlock=some W.heap.size∨v.ownBlock=none) :
  WOk W0 h0 (upd ρ nx v) ((nx,.row e sz n xs) :: p) h W':=by
 refine hW.new_ hp ⟨hg.os,hg.tape,hg.output,hg.size,fun k hk=>hg.block k hk (by simp)⟩ (fun k hk=>?_) ?_
 ·have hs:∀ a,v ≠ .pointer a:=by
   rintro a rfl
   rcases hown.2 with ⟨h1,_⟩|⟨g',cap,cur,h1,_⟩ <;> cases h1
  rcases hv with hv|hv
  ·rcases zcA hk hv with h1|⟨a,h1⟩
   ·simpa using h1.symm
   ·exact (hs a h1).elim
  ·rcases zcA hk hv with h1|⟨a,h1⟩
   ·cases h1
   ·exact (hs a h1).elim
 ·show W'.ownsRow 0 e sz (upd ρ nx v nx) n xs
  rw [zbT];exact hown
theorem zcC {o:Oper} {t:TypeId} {l c:Operand} {K:St→Prop} {ρ:Rho} {a:Act} {W:World} (ho:o.op=.makeSlice t l c) (hw:st.wf=true) (hd:∀ d',o.dst=some d'→d' < N) (hf:FOk N ρ st.e a) (hW:WOk W0 h0 ρ st.p st.h W)
  (h:zci P st t l c fun e sz n xs=>K (St.mk (zb5 st.e o.dst true (.c (.s st.nx))) ((st.nx,.row e sz n xs) :: st.p) st.h (st.nx+1))):Runs P W0 h0 N o K ρ a W:=by
 unfold zci at h
 obtain ⟨e,hu,hT,h⟩:=zcs h
 obtain ⟨z,hz,h⟩:=zct h
 obtain ⟨hzl,h⟩:=h
 obtain ⟨i,zv,hi,hiz,hzc,hsz,hby⟩:=zcu hz
 obtain ⟨vl,h,_,hl⟩:=zaB (N:=N) hw h
 obtain ⟨vc,h,_,hc⟩:=zaB (N:=N) hw h
 obtain ⟨⟨kl,hkl⟩,⟨kc,hkc⟩,h0c,hcm,hb,h⟩:=h
 have el:=hl rfl ρ a hf
 have ec:=hc rfl ρ a hf
 rw [zax hkl] at el
 rw [zax hkc] at ec
 obtain ⟨n,hn⟩:=Int.eq_ofNat_of_zero_le h0c
 rw [hn,jW] at hb
 have hcm':n≤maxLen:=by rw [hn] at hcm;exact_mod_cast hcm
 split at h
 ·rename_i h0
  obtain ⟨k,el0⟩:∃ k,a.eval l=.int k 0:=by
   unfold zch at h0
   split at h0
   ·exact ⟨_,rfl⟩
   ·cases h0
  obtain ⟨w',hr,hown,hg⟩:=run_make_own (P:=P) W 0 t e i zv (szT P e) hu hi hiz hsz k kc n (by rw [hby];omega) hcm' (Nat.zero_le _)
  refine ⟨_,w',?_,_,h,zcz hw hd hf (wf_p hw) (zcB hW (wf_p hw) hown hg (.inl rfl))⟩
  simp only [execOp,ho,el0,ec,hn]
  simp [Sem.run_bind,hr]
 ·obtain ⟨hlc,h⟩:=h
  obtain ⟨w',hr,hown,hg⟩:=run_make_full (P:=P) W 0 t e i zv (szT P e) hu hi hiz hsz kl kc n (by rw [hby];omega) hcm' (Nat.zero_le _)
  rw [hn,jW] at h
  rw [hzc] at hown
  refine ⟨_,w',?_,_,h,zcz hw hd hf (wf_p hw) (zcB hW (wf_p hw) hown hg (.inl rfl))⟩
  simp only [execOp,ho,el,ec,hlc,hn]
  simp [Sem.run_bind,hr]
theorem zcD {t:TypeId} {W:World} {b o:Nat} {vs:List Value} {v:Value} {cur:Array Value} {e:TypeId} (ht:hasT P t=true) (hv:v.cells=vs.toArray) (hl:vs.length=szT P t)
  (hg:W.heap[b]?=some (.cells cur e (0,0))) (hle:o+vs.length≤cur.size) (h1:∀ u ∈ vs,u.oneCell'=true) :
  (Instr.storeAt t (.pointer (some ⟨b,o,none⟩)) v).run P W=.ok () (W.setRow b (zbG o vs cur.toList).toArray):=by
 have hst:=run_storeCells_at P b o e vs 0 cur W hg (by omega) h1
 simp only [Nat.add_zero,List.append_assoc] at hst
 simp [Instr.storeAt,Instr.sureAddr,storeVar,Sem.run_bind,za1 (P:=P) ht,hv,hl,hst,zbG]
theorem zcE {α β:Type} (f:α→β) (o:Nat) (new cs:List α):(zbG o new cs).map f=zbG o (new.map f) (cs.map f):=by
 simp [zbG,List.map_take,List.map_drop]
theorem zcF {α:Type} {o:Nat} {new cs:List α} (h:o+new.length≤cs.length):(zbG o new cs).length=cs.length:=by
 simp [zbG];omega
theorem zcG {α:Type} {o n:Nat} {new cs:List α} (h:o+new.length≤n) (hn:n≤cs.length):(zbG o new cs).take n=zbG o new (cs.take n):=by
 have m1:min o cs.length=o:=by omega
 have m2:min o (min n cs.length)=o:=by omega
 apply List.ext_getElem?
 intro i
 simp only [zbG,List.getElem?_take,List.getElem?_append,List.length_take,List.getElem?_drop,m1,m2]
 by_cases h1:i < n
 ·rw [if_pos h1]
  by_cases h2:i < o
  ·rw [if_pos h2,if_pos h2,if_pos h2,if_pos h2,if_pos h1]
  ·rw [if_neg h2,if_neg h2]
   by_cases h3:i - o < new.length
   ·rw [if_pos h3,if_pos h3]
   ·rw [if_neg h3,if_neg h3,if_pos (by omega)]
 ·rw [if_neg h1,if_neg (by omega),if_neg (by omega),if_neg (by omega)]
theorem zcH {o:Oper} {t:TypeId} {x y:Operand} {K:St→Prop} {ρ:Rho} {a:Act} {W:World} (ho:o.op=.store t x y) (hn:o.dst=none) (hw:st.wf=true) (hf:FOk N ρ st.e a) (hW:WOk W0 h0 ρ st.p st.h W)
  (h:getO st true x fun va=>getO st true y fun vx=>zb9 P st.p t va vx fun p=>K (St.mk st.e p st.h st.nx)) :
  ∃ W',(execOp a.eval o).run P W=.ok .skip W'∧∃ st',K st'∧Conc W0 h0 N st' (a.put o.dst undef) W':=by
 obtain ⟨va,h,_,hx⟩:=zaB (N:=N) hw h
 obtain ⟨vx,h,hlx,hy⟩:=zaB (N:=N) hw h
 obtain ⟨ht,h⟩:=h
 replace hx:=hx rfl ρ a hf
 replace hy:=hy rfl ρ a hf
 rw [hn]
 cases va with
 | g cs=>exact h.elim
 | c va=>cases va with
 | v _=>exact h.elim
 | s _=>exact h.elim
 | p r off =>
  replace h:zb8 P st.p t r off (look r st.p) vx fun p=>K (St.mk st.e p st.h st.nx):=h
  unfold zb8 at h
  split at h
  ·rename_i ty cs hl
   obtain ⟨h1,h2,h3,h⟩:=h
   obtain ⟨b,hb1,hb2,hb3⟩:=hW.priv r _ hl
   have hone:∀ u ∈ vx.cells.map (·.conc ρ),u.oneCell'=true:=by
    intro u hu
    obtain ⟨c,hc,rfl⟩:=List.mem_map.1 hu
    exact zcp hW (List.all_eq_true.1 h3 c hc)
   have hr:=zcD (P:=P) (t:=t) (o:=off) (vs:=vx.cells.map (·.conc ρ)) ht (zcq hW h3) (by simpa using h1) hb3 (by simp [h1];omega) hone
   refine ⟨_,?_,_,h,ρ,by simpa [Act.put] using hf,hW.set_ (b:=.box ty (zbG off vx.cells cs)) hl (.inl hb1) (zbG off (vx.cells.map (·.conc ρ)) (cs.map (·.conc ρ))).toArray ⟨b,hb1,hb2,?_⟩,?_⟩
   ·simp only [execOp,ho,hx,hy,zak,zai,hb1,blk]
    simp [Sem.run_bind,hr]
   ·rw [setRow_heap W b _ _ _ _ hb3,zcE]
   ·simp only [St.wf,wf_e hw,Bool.true_and]
    refine zb1 ?_ (wf_p hw)
    have hcs:=(zao (wf_p hw) hl).2
    simp only [PB.lt,List.all_eq_true] at hcs ⊢
    intro c hc
    simp only [zbG,List.mem_append] at hc
    rcases hc with hc|hc|hc
    ·exact hcs c (List.mem_of_mem_take hc)
    ·exact SV.cells_lt hlx c hc
    ·exact hcs c (List.mem_of_mem_drop hc)
  ·rename_i e sz n xs hl
   obtain ⟨h1,h2,h3,h⟩:=h
   have hb:W.ownsRow 0 e sz (ρ r) n xs:=hW.priv r _ hl
   have hvals:vx.cells.map (·.conc ρ)=vx.cells.map (·.val):=by
    apply List.map_congr_left
    intro c hc
    have:=List.all_eq_true.1 h3 c hc
    simp only [jJ] at this
    cases c <;> first|rfl|(simp [zb7] at this)
   have hcell:(vx.conc ρ).cells=(vx.cells.map (·.val)).toArray:=by
    rw [← hvals]
    refine zcq hW (List.all_eq_true.2 fun c hc=>?_)
    have:=List.all_eq_true.1 h3 c hc
    simp only [jJ] at this
    cases c <;> first|exact this.2|(simp [zb7] at this)
   have hone:∀ u ∈ vx.cells.map (·.val),u.oneCell'=true:=by
    intro u hu
    obtain ⟨c,hc,rfl⟩:=List.mem_map.1 hu
    have:=List.all_eq_true.1 h3 c hc
    simp only [jJ] at this
    exact this.2
   rcases hb.2 with ⟨_,hn0⟩|⟨b,cap,cur,hv,hb2,hb3,hnc,hcm,hcs,htake⟩
   ·have hx0:xs.length=0:=by rw [hb.1,hn0];simp
    have hs0:szT P t=0:=by omega
    have hne:vx.cells=[]:=List.eq_nil_of_length_eq_zero (by omega)
    have ho0:off=0:=by omega
    have hxs:xs=[]:=List.eq_nil_of_length_eq_zero hx0
    have hrw:(setP r (.row e sz n (zbG off (vx.cells.map (·.val)) xs)) st.p)=setP r (.row e sz n xs) st.p:=by simp [zbG,hne,hxs]
    rw [hrw] at h
    refine ⟨W,?_,_,h,ρ,by simpa [Act.put] using hf,?_,?_⟩
    ·simp only [execOp,ho,hx,hy,zak,zai]
     have hr:(Instr.storeAt t (.pointer (some ⟨blk (ρ r),off,none⟩)) (vx.conc ρ)).run P W=.ok () W:=by
      simp [Instr.storeAt,Instr.sureAddr,storeVar,Sem.run_bind,za1 (P:=P) ht,hcell,hne,hs0,storeCells]
     simp [Sem.run_bind,hr]
    ·refine ⟨hW.below,hW.sees,hW.ext,hW.new,fun r' b' g' hr'=>?_,fun r' b' hr'=>?_,fun r' b' g' hr'=>?_,fun r1 b1 r2 b2 g' k1 k2=>?_⟩
     ·rw [zb0 hl] at hr'
      split at hr'
      ·rename_i e;subst e;exact hW.own _ _ g' hl
      ·exact hW.own r' b' g' hr'
     ·rw [zb0 hl] at hr'
      split at hr'
      ·rename_i e;subst e;simp only [Option.some.injEq] at hr';subst hr';exact hW.priv _ _ hl
      ·exact hW.priv r' b' hr'
     ·rw [zb0 hl] at hr'
      split at hr'
      ·rename_i e;subst e;exact hW.apart _ _ g' hl
      ·exact hW.apart r' b' g' hr'
     ·have m1:∃ b,look r1 st.p=some b:=by
       rw [zb0 hl] at k1
       split at k1
       ·rename_i e;subst e;exact ⟨_,hl⟩
       ·exact ⟨_,k1⟩
      have m2:∃ b,look r2 st.p=some b:=by
       rw [zb0 hl] at k2
       split at k2
       ·rename_i e;subst e;exact ⟨_,hl⟩
       ·exact ⟨_,k2⟩
      obtain ⟨c1,m1⟩:=m1
      obtain ⟨c2,m2⟩:=m2
      exact hW.distinct r1 c1 r2 c2 g' m1 m2
    ·simp only [St.wf,wf_e hw,Bool.true_and]
     exact zb1 rfl (wf_p hw)
   ·have hxl:xs.length≤cur.size:=by rw [hb.1,hcs];exact Nat.mul_le_mul_right _ hnc
    have hr:=zcD (P:=P) (t:=t) (o:=off) (vs:=vx.cells.map (·.val)) ht hcell (by simpa using h1) hb3 (by simp [h1];omega) hone
    refine ⟨_,?_,_,h,ρ,by simpa [Act.put] using hf,hW.set_ (b:=.row e sz n (zbG off (vx.cells.map (·.val)) xs)) hl (.inr ⟨n,cap,hv⟩) (zbG off (vx.cells.map (·.val)) cur.toList).toArray ?_,?_⟩
    ·simp only [execOp,ho,hx,hy,zak,zai,hv,blk]
     simp [Sem.run_bind,hr]
    ·show (W.setRow b _).ownsRow 0 e sz (ρ r) n _
     refine ⟨by rw [zcF (by simp [h1];omega)];exact hb.1,.inr ⟨b,cap,_,hv,hb2,setRow_heap W b _ _ _ _ hb3,hnc,hcm,?_,?_⟩⟩
     ·simp only [List.size_toArray]
      rw [zcF (by simp [h1];omega)]
      simpa using hcs
     ·simp only
      rw [zcG (by simp [h1,← hb.1];omega) (by simp [← hb.1];omega),htake]
    ·simp only [St.wf,wf_e hw,Bool.true_and]
     exact zb1 rfl (wf_p hw)
  ·cases h
end
open Go Go.RowKit
section
variable {P:Program} {W0:Base} {h0:Hp} {N:Nat} {st:St} {g:Bool}
theorem zcI {sz:Nat}:∀ {i:Nat} {js:List Nat} {xs:List SV},zcb sz i js xs →
  js=List.range' i xs.length∧js.length=xs.length∧(∀ x ∈ xs,x.cells.length=sz∧x.plain=true)
 | i,[],[],_=>by simp
 | i,[],_ :: _,h=>by simp [zcb] at h
 | i,_ :: _,[],h=>by simp [zcb] at h
 | i,j :: js,x :: xs,h=>by
  obtain ⟨rfl,h1,h2,h3⟩:=h
  obtain ⟨k1,k2,k3⟩:=zcI h3
  refine ⟨by simp [List.range'_succ,k1.symm],by simp [k2],fun y hy=>?_⟩
  rcases List.mem_cons.1 hy with rfl|hy
  ·exact ⟨h1,h2⟩
  ·exact k3 y hy
theorem zcJ {x:SV} (h:x.plain=true):x.pv.cells=(x.cells.map (·.val)).toArray:=by
 cases x with
 | c x=>cases x with
  | v x=>cases x <;> simp [SV.pv,SC.val,Value.cells,SV.cells,List.map_map,Function.comp_def]
  | _=>cases h
 | g cs=>simp [SV.pv,Value.cells,SV.cells]
theorem zcK {t e:TypeId} {n:Nat} {W:World} {js:List Nat} {vs:List SV} {z:List Value} (hu:P.underlying t=some (.slice e)) (hT:hasT P e=true) (hpos:0 < szT P e) (hz:zbF P e=some z) (_hzl:z.length=szT P e)
  (hsm:n * szT P e≤16777216) (hn:vs.length=n) (hp:zcb (szT P e) 0 js vs) (ρ:Rho) :
  (Instr.buildSlice t n ((js.zip (vs.map (·.conc ρ))).toArray)).run P W=.ok (.slice (some ⟨W.heap.size,0,none⟩) n n) (W.alloc (.cells (vs.flatMap fun x=>x.cells.map (·.val)).toArray e)):=by
 obtain ⟨k1,k2,k3⟩:=zcI hp
 obtain ⟨i,zv,hi,hiz,hzc,hsz,_⟩:=zcu hz
 have hvs:vs.map (·.conc ρ)=vs.map (·.pv):=List.map_congr_left fun x hx=>SV.pv_conc (k3 x hx).2 ρ
 have hcat:((vs.map (·.pv)).flatMap fun v=>v.cells.toList)=vs.flatMap fun x=>x.cells.map (·.val):=by
  rw [List.flatMap_map]
  have:∀ x ∈ vs,x.pv.cells.toList=x.cells.map (·.val):=fun x hx=>by rw [zcJ (k3 x hx).2]
  clear k1 k2 hn hp hvs k3 hsm
  induction vs with
  | nil=>rfl
  | cons y ys ih=>rw [List.flatMap_cons,List.flatMap_cons,this y List.mem_cons_self,ih fun x hx=>this x (List.mem_cons_of_mem _ hx)]
 rw [hvs]
 rcases Nat.eq_zero_or_pos n with hn0|hn0
 ·subst hn0
  have:vs=[]:=List.eq_nil_of_length_eq_zero hn
  subst this
  have hjs:js=[]:=by simpa using k2
  subst hjs
  simp [Instr.buildSlice,run_underlying hu,Sem.run_bind,za1 (P:=P) hT,Instr.fill,newRow]
  have:(Array.range 0)=#[]:=by simp [Array.range]
  simp [this]
 ·have hfill:=Go.Great.fill_whole (s:=szT P e) hpos (vs.map (·.pv)) ((Array.range (n * szT P e)).map (zv.cells[· % zv.cells.size]!)) (fun v hv=>by
   obtain ⟨x,hx,rfl⟩:=List.mem_map.1 hv
   rw [zcJ (k3 x hx).2]
   simpa using (k3 x hx).1) (by simp [hn])
  rw [hcat] at hfill
  have hz1:(js.zip (vs.map (·.pv)))=((vs.map (·.pv)).zipIdx 0).map fun x=>(x.2,x.1):=by
   rw [k1]
   have:∀ (l:List Value) (k:Nat),(List.range' k l.length).zip l=(l.zipIdx k).map fun x=>(x.2,x.1):=by
    intro l
    induction l with
    | nil=>intro k;rfl
    | cons y l ih=>intro k;simp [List.range'_succ,ih (k+1)]
   simpa using this (vs.map (·.pv)) 0
  have:=run_buildSlice (P:=P) W t e n (js.zip (vs.map (·.pv))).toArray (vs.flatMap fun x=>x.cells.map (·.val)).toArray i zv hu hi hiz (by rw [hsz];omega) (by
   rw [hsz]
   have:=Nat.mul_pos hn0 hpos
   omega) (by rw [hsz];rw [← hfill,hz1])
  exact this
theorem zcL {sz:Nat}:∀ {js:List Nat} {vs:List SV} {i:Nat},zcb sz i js vs→(vs.flatMap fun x=>x.cells.map (·.val)).length=vs.length * sz
 | [],[],_,_=>by simp
 | j :: js,x :: xs,i,h=>by
  obtain ⟨_,h1,_,h2⟩:=h
  rw [List.flatMap_cons,List.length_append,List.length_map,h1,zcL h2,List.length_cons,Nat.add_mul,Nat.one_mul,Nat.add_comm]
 | [],_ :: _,_,h=>h.elim
 | _ :: _,[],_,h=>h.elim
theorem zcM {o:Oper} {t:TypeId} {n:Nat} {ps:Array (Nat × Operand)} {K:St→Prop} {ρ:Rho} {a:Act} {W:World} (ho:o.op=.buildSlice t n ps) (hw:st.wf=true) (hd:∀ d',o.dst=some d'→d' < N) (hf:FOk N ρ st.e a) (hW:WOk W0 h0 ρ st.p st.h W)
  (h:zcl P st o t n ps K):Runs P W0 h0 N o K ρ a W:=by
 unfold zcl at h
 obtain ⟨vs,h,hlen,_,hx⟩:=zaD (N:=N) hw h
 obtain ⟨e,hu,hT,hpos,h⟩:=zcs h
 obtain ⟨z,hz,hzl,hsm,hpl,hp,h⟩:=zct h
 replace hx:=hx rfl ρ a hf
 have hnone:=zbX hW.sees (Nat.le_refl _)
 have hr:=zcK (P:=P) (W:=W) (n:=n) hu hT hpos hz hzl hsm (by rw [hlen];simpa using hpl) hp ρ
 have hb:=zbZ W (.cells (vs.flatMap fun x=>x.cells.map (·.val)).toArray e)
 refine ⟨.slice (some ⟨W.heap.size,0,none⟩) n n,W.alloc (.cells (vs.flatMap fun x=>x.cells.map (·.val)).toArray e),?_,_,h W.heap.size hnone,?_⟩
 ·simp only [execOp,ho]
  have e1:(ps.map fun (i,x)=>(i,a.eval x))=((ps.toList.map (·.1)).zip (vs.map (·.conc ρ))).toArray:=by
   rw [← hx]
   apply Array.toList_inj.1
   simp only [Array.toList_map,List.map_map,Function.comp_def]
   generalize ps.toList=l
   induction l with
   | nil=>rfl
   | cons y l ih=>simp [ih]
  rw [e1]
  exact zco hr
 ·refine Conc.put_ (c:=true) (sv:=.c (.v (.slice (some ⟨W.heap.size,0,none⟩) n n))) hf (hW.grow hb (Hp.ins_le hnone) (fun b o' hb'=>?_) (fun b o' hb' hbn=>?_)) (wf_p hw) (wf_e hw) hd rfl rfl
  ·simp only [Hp.ins] at hb'
   split at hb'
   ·rename_i eb;subst eb;simp only [Option.some.injEq] at hb';subst hb';exact heap_alloc_new W _
   ·rw [hb.block b ?_]
    ·exact hW.sees b o' hb'
    ·exact (Array.getElem?_eq_some_iff.1 (hW.sees b o' hb')).1
  ·simp only [Hp.ins] at hb'
   split at hb'
   ·rename_i eb;omega
   ·rw [hbn] at hb';cases hb'
theorem zcN {o:Oper} {t:TypeId} {n:Nat} {ps:Array (Nat × Operand)} {K:St→Prop} {ρ:Rho} {a:Act} {W:World} (ho:o.op=.buildSlice t n ps) (hw:st.wf=true) (hd:∀ d',o.dst=some d'→d' < N) (hf:FOk N ρ st.e a) (hW:WOk W0 h0 ρ st.p st.h W)
  (h:zaC st true (ps.toList.map (·.2)) fun vs=>zcc P t fun e=>0 < szT P e∧zca P e fun z=>z.length=szT P e∧n * szT P e≤16777216∧ps.toList.length=n∧zcb (szT P e) 0 (ps.toList.map (·.1)) vs ∧
   K (St.mk (zb5 st.e o.dst true (.c (.s st.nx))) ((st.nx,.row e (szT P e) n (vs.flatMap fun x=>x.cells.map (·.val))) :: st.p) st.h (st.nx+1))):Runs P W0 h0 N o K ρ a W:=by
 obtain ⟨vs,h,hlen,_,hx⟩:=zaD (N:=N) hw h
 obtain ⟨e,hu,hT,hpos,h⟩:=zcs h
 obtain ⟨z,hz,hzl,hsm,hpl,hp,h⟩:=zct h
 replace hx:=hx rfl ρ a hf
 have hr:=zcK (P:=P) (W:=W) (n:=n) hu hT hpos hz hzl hsm (by rw [hlen];simpa using hpl) hp ρ
 have hlen':vs.length=n:=by rw [hlen];simpa using hpl
 have hfl:(vs.flatMap fun x=>x.cells.map (·.val)).length=n * szT P e:=by rw [zcL hp,hlen']
 refine ⟨.slice (some ⟨W.heap.size,0,none⟩) n n,W.alloc (.cells (vs.flatMap fun x=>x.cells.map (·.val)).toArray e),?_,_,h,zcz hw hd hf (wf_p hw) (zcB hW (wf_p hw) ?_ ⟨rfl,rfl,rfl,by simp,fun k hk _=>Below.heap_alloc W _ k hk⟩ (.inl rfl))⟩
 ·simp only [execOp,ho]
  have e1:(ps.map fun (i,x)=>(i,a.eval x))=((ps.toList.map (·.1)).zip (vs.map (·.conc ρ))).toArray:=by
   rw [← hx]
   apply Array.toList_inj.1
   simp only [Array.toList_map,List.map_map,Function.comp_def]
   generalize ps.toList=l
   induction l with
   | nil=>rfl
   | cons y l ih=>simp [ih]
  rw [e1]
  exact zco hr
 ·refine ⟨hfl,.inr ⟨W.heap.size,n,_,rfl,Nat.zero_le _,heap_alloc_new W _,Nat.le_refl _,?_,by simp [hfl],?_⟩⟩
  ·have h1:n * 1≤n * szT P e:=Nat.mul_le_mul_left _ hpos
   rw [Nat.mul_one] at h1
   unfold maxLen
   omega
  ·simp only
   rw [← hfl];exact List.take_length
theorem zcO {sz:Nat} {x:SV} {K:Nat→List Value→Prop} (hpos:0 < sz) (h:vsrc st sz x K) :
  ∃ m ys,K m ys∧∀ ρ W,WOk W0 h0 ρ st.p st.h W→∃ A c,x.conc ρ=.slice A m c∧ys.length=m * sz∧(0 < m→∃ ad,A=some ad)∧(A=none→c=0∨m=0)∧∀ ad,A=some ad→∀ j u,ys[j]?=some u→W.cell? (ad.add j)=some u:=by
 unfold vsrc at h
 split at h
 ·rename_i y
  obtain ⟨hy,hs,h⟩:=h
  obtain ⟨l,hl,h1,h2,h3⟩:=Hp.ldL_spec hy hs
  rw [hl] at h
  refine ⟨_,_,h,fun ρ W hW=>⟨Value.A y,Value.C y,zav hy,h1,fun h0=>h2 h0 hpos,fun hA=>?_,fun ad had=>h3 W hW.sees ad had⟩⟩
  right
  rcases Nat.eq_zero_or_pos (Value.L y) with h0|h0
  ·exact h0
  ·obtain ⟨ad,had⟩:=h2 h0 hpos
   rw [hA] at had
   cases had
 ·rename_i r
  split at h
  ·rename_i e' sz' m ys hl
   obtain ⟨rfl,h⟩:=h
   refine ⟨_,_,h,fun ρ W hW=>?_⟩
   have hb:W.ownsRow 0 e' sz' (ρ r) m ys:=hW.priv r _ hl
   rcases hb.2 with ⟨hv,hm⟩|⟨b,cap,cur,hv,_⟩
   ·exact ⟨none,0,by simp [hv,hm],hb.1,fun h1=>by omega,fun _=>.inl rfl,fun ad had=>by cases had⟩
   ·refine ⟨some ⟨b,0,none⟩,cap,by simp [hv],hb.1,fun _=>⟨_,rfl⟩,fun he=>(by cases he),fun ad had=>?_⟩
    simp only [Option.some.injEq] at had
    subst had
    exact hb.cells (g:=b) (by rw [hv];rfl)
  ·cases h
 ·cases h
theorem zcP {e:TypeId} {sz:Nat} {x:SV} {K:Nat→List Value→List (Nat × PB)→Prop} (hw:st.wf=true) (h:vdst st e sz x K) :
  ∃ n xs p,K n xs p∧pbLt st.nx p=true∧(∀ r b,look r p=some b→look r st.p=some b) ∧
   ∀ ρ W,WOk W0 h0 ρ st.p st.h W→W.ownsRow 0 e sz (x.conc ρ) n xs∧(∀ k,(x.conc ρ).ownBlock=some k→st.h k=none∧W0.own k∧∀ r b,look r p=some b→¬ PB.at ρ r k):=by
 unfold vdst at h
 split at h
 ·rename_i r
  split at h
  ·rename_i e' sz' n xs hl
   obtain ⟨rfl,rfl,h⟩:=h
   refine ⟨_,_,_,h,zb4 (wf_p hw),fun r' b hr=>(zb3 hr).1,fun ρ W hW=>⟨hW.priv r _ hl,fun k hk=>?_⟩⟩
   have hat:PB.at ρ r k:=by
    have hb:W.ownsRow 0 e' sz' (ρ r) n xs:=hW.priv r _ hl
    rcases hb.2 with ⟨hv,_⟩|⟨b,cap,cur,hv,_⟩
    ·simp [hv,Value.ownBlock] at hk
    ·simp only [zak,zaj,hv,Value.ownBlock,Option.some.injEq] at hk
     subst hk
     exact .inr ⟨_,_,hv⟩
   exact ⟨hW.apart r _ k hl hat,hW.own r _ k hl hat,fun r' b hr hat'=>(zb3 hr).2 (hW.distinct r' b r _ k (zb3 hr).1 hl hat' hat)⟩
  ·cases h
 ·exact ⟨_,_,_,h,wf_p hw,fun _ _ x=>x,fun ρ W hW=>⟨World.ownsRow_nil W _ e sz,fun k hk=>by simp [Value.ownBlock] at hk⟩⟩
 ·cases h
theorem zcQ {t ty e:TypeId} {W:World} {base sz n:Nat} {v:Value} {xs:List Value} (hu:P.underlying t=some (.slice e)) (hT:hasT P e=true) (hown:W.ownsRow base e sz v n xs) (c:Nat) :
  (Builtin.append_ #[t,t] ty #[v,.slice none 0 c]).run P W=.ok v W:=by
 rcases hown.2 with ⟨rfl,rfl⟩|⟨g,cap,cur,rfl,_,_,hnc,_⟩
 ·simp [Builtin.append_,run_underlying hu,za1 (P:=P) hT,Builtin.lenOf,Builtin.firstCells]
 ·simp [Builtin.append_,run_underlying hu,za1 (P:=P) hT,Builtin.lenOf,Builtin.firstCells,hnc,storeCells]
theorem zcR {o:Oper} {c:Call} {s x:Operand} {t:TypeId} {a:Act} {W W':World} {v:Value} (ho:o.op=.call c) (hc:c.callee=.builtin .append) (ha:c.args.toList=[s,x]) (ht:c.argTypes.toList=[t,t])
  (hr:(Builtin.append_ #[t,t] o.type #[a.eval s,a.eval x]).run P W=.ok v W'):(execOp a.eval o).run P W=.ok (.value v) W':=by
 obtain ⟨callee,args,ats⟩:=c
 simp only at hc ha ht
 have ha:args=#[s,x]:=Array.toList_inj.1 ha
 have ht:ats=#[t,t]:=Array.toList_inj.1 ht
 subst hc ha ht
 simp only [execOp,ho,resolve,invoke,builtin,Sem.run_bind,Sem.run_pure,Result.andThen_ok,List.map_toArray,List.map_cons,List.map_nil,hr]
theorem zcS {o:Oper} {c:Call} {s x:Operand} {t:TypeId} {vs vx:SV} {K:St→Prop} {ρ:Rho} {a:Act} {W:World} (ho:o.op=.call c) (hc:c.callee=.builtin .append) (ha:c.args.toList=[s,x]) (ht:c.argTypes.toList=[t,t])
  (hw:st.wf=true) (hd:∀ d',o.dst=some d'→d' < N) (hf:FOk N ρ st.e a) (hW:WOk W0 h0 ρ st.p st.h W) (hs:a.eval s=vs.conc ρ) (hx:a.eval x=vx.conc ρ)
  (h:zcd P st t vs vx fun e sz n xs p=>K (St.mk (zb5 st.e o.dst true (.c (.s st.nx))) ((st.nx,.row e sz n xs) :: p) st.h (st.nx+1))):Runs P W0 h0 N o K ρ a W:=by
 unfold zcd at h
 obtain ⟨e,hu,hT,h⟩:=zcs h
 obtain ⟨z,hz,hzl,hpos,h⟩:=zct h
 obtain ⟨i,zv,hi,hiz,hzc,hsz,hby⟩:=zcu hz
 obtain ⟨m,ys,h,hsrc⟩:=zcO (W0:=W0) (h0:=h0) hpos h
 obtain ⟨n,xs,p,h,hp,hsub,hdst⟩:=zcP (W0:=W0) (h0:=h0) hw h
 obtain ⟨h1,hm1,hm2,h⟩:=h
 obtain ⟨A,cc,ex,hl,hA,hAn,hcell⟩:=hsrc ρ W hW
 obtain ⟨hown,hblk⟩:=hdst ρ W hW
 have hW':∀ v' W',W'.ownsRow 0 e (szT P e) v' (n+m) (xs ++ ys)→W.grownBy W' (vs.conc ρ).ownBlock→(v'.ownBlock=(vs.conc ρ).ownBlock∨v'.ownBlock=some W.heap.size) →
   WOk W0 h0 (upd ρ st.nx v') ((st.nx,.row e (szT P e) (n+m) (xs ++ ys)) :: p) st.h W':=by
  intro v' W' hown' hg hat
  have hkeep:∀ k,k < W.heap.size→(vs.conc ρ).ownBlock ≠ some k→W'.heap[k]?=W.heap[k]?:=fun k hk hne=>hg.block k hk (Ne.symm hne)
  have hbl:BelowO W0 W':=hW.below.step hg.os hg.tape hg.output hg.size fun k hk hlt=>hkeep k hlt (fun he=>hk (hblk k he).2.1)
  have hptr:∀ a,v' ≠ .pointer a:=by
   rintro a rfl
   rcases hown'.2 with ⟨h1,_⟩|⟨g',cap,cur,h1,_⟩ <;> cases h1
  have hown_at:∀ k,atV v' k→v'.ownBlock=some k:=by
   intro k hk
   rcases hk with hk|⟨q,r,hk⟩
   ·exact (hptr _ hk).elim
   ·rw [hk];rfl
  refine (hW.add (wf_p hw) hsub hbl (zbY hW.sees fun k hk=>hkeep k ?_ (fun he=>hk (hblk k he).1)) (fun k hk=>?_) (fun r b hr=>PB.ok_keep (hW.priv r b (hsub r b hr)) fun k hk=>hkeep k (PB.ok_lt (hW.priv r b (hsub r b hr)) hk).2 (fun he=>(hblk k he).2.2 r b hr hk)) ?_ (fun k hk=>?_) (fun r b k hr hat' hk=>?_))
  ·rcases Nat.lt_or_ge k W.heap.size with hlt|hge
   ·exact hlt
   ·exact (hk (zbX hW.sees hge)).elim
  ·have:=hown_at k hk
   rcases hat with hat|hat
   ·exact (hblk k (by rw [← hat,this])).2.1
   ·rw [hat] at this
    simp only [Option.some.injEq] at this
    rw [← this];exact W0.big _ hW.below.size
  ·show W'.ownsRow 0 e (szT P e) (upd ρ st.nx v' st.nx) _ _
   rw [zbT];exact hown'
  ·have:=hown_at k hk
   rcases hat with hat|hat
   ·exact (hblk k (by rw [← hat,this])).1
   ·rw [hat] at this
    simp only [Option.some.injEq] at this
    rw [← this];exact zbX hW.sees (Nat.le_refl _)
  ·have:=hown_at k hk
   rcases hat with hat|hat
   ·exact (hblk k (by rw [← hat,this])).2.2 r b hr hat'
   ·rw [hat] at this
    simp only [Option.some.injEq] at this
    have h2:=(PB.ok_lt (hW.priv r b (hsub r b hr)) hat').2
    omega
 cases A with
 | none =>
  have hm0:m=0:=by
   rcases Nat.eq_zero_or_pos m with h0|h0
   ·exact h0
   ·obtain ⟨ad,had⟩:=hA h0;cases had
  subst hm0
  have hys:ys=[]:=List.eq_nil_of_length_eq_zero (by simpa using hl)
  subst hys
  have hr:=zcQ (P:=P) (ty:=o.type) hu hT hown cc
  refine ⟨_,W,zcR ho hc ha ht (by rw [hs,hx,ex];exact hr),_,h,zcz hw hd hf hp ?_⟩
  exact hW' _ W (by simpa using hown) (World.grownBy.refl W _) (.inl rfl)
 | some ad =>
  obtain ⟨v',W',hr,hown',hg,_,hat⟩:=run_append_own_at (P:=P) W 0 t o.type e i zv (szT P e) (P.bytesOf e) hu hi hiz hsz hby (by rw [hzc];simpa using hzl) hpos (vs.conc ρ) n xs hown ad m cc ys hl (hcell ad rfl) h1 hm1 hm2 (Nat.zero_le _)
  exact ⟨_,W',zcR ho hc ha ht (by rw [hs,hx,ex];exact hr),_,h,zcz hw hd hf hp (hW' v' W' hown' hg hat)⟩
theorem zcT {o:Oper} {c:Call} {s x:Operand} {t:TypeId} {y:Value} {vx:SV} {K:St→Prop} {ρ:Rho} {a:Act} {W:World} (ho:o.op=.call c) (hc:c.callee=.builtin .append) (ha:c.args.toList=[s,x]) (ht:c.argTypes.toList=[t,t])
  (hw:st.wf=true) (hd:∀ d',o.dst=some d'→d' < N) (hf:FOk N ρ st.e a) (hW:WOk W0 h0 ρ st.p st.h W) (hs:a.eval s=y) (hx:a.eval x=vx.conc ρ)
  (h:zce P st t y vx fun e sz n xs=>K (St.mk (zb5 st.e o.dst true (.c (.s st.nx))) ((st.nx,.row e sz n xs) :: st.p) st.h (st.nx+1))):Runs P W0 h0 N o K ρ a W:=by
 unfold zce at h
 obtain ⟨e,hu,hT,h⟩:=zcs h
 obtain ⟨z,hz,hzl,hpos,hy,hfull,hyA,hys,h⟩:=zct h
 obtain ⟨i,zv,hi,hiz,hzc,hsz,hby⟩:=zcu hz
 obtain ⟨xs,hxs,hxl,_,hxc⟩:=Hp.ldL_spec hy hys
 obtain ⟨m,ys,h,hsrc⟩:=zcO (W0:=W0) (h0:=h0) hpos h
 obtain ⟨hm,h1,hm1,hm2,h⟩:=h
 obtain ⟨A,cc,ex,hl,hA,hAn,hcell⟩:=hsrc ρ W hW
 obtain ⟨ad,rfl⟩:=hA hm
 obtain ⟨ay,hay⟩:=Option.isSome_iff_exists.1 hyA
 have hyv:y=.slice (some ay) (Value.L y) (Value.L y):=by
  have:=zav hy
  rw [hay,hfull] at this
  exact this
 rw [hxs,Option.getD_some] at h
 have hr:=run_append_grow (P:=P) W t o.type e i zv hu hi hiz ay (Value.L y) (Value.L y) xs (by rw [hsz];exact hxl) (hxc W hW.sees ay hay) ad m cc ys (by rw [hsz];exact hl) (hcell ad rfl) (by omega)
  (by have:=hm1;unfold maxLen at this;omega) (by rw [hby];exact growslice_fits (by omega) hm2)
 have hge:=grownCap_ge W (Value.L y+m) (Value.L y) e
 have hcm:grownCap W (Value.L y+m) (Value.L y) e≤maxLen:=grownCap_le_maxLen W (Value.L y+m) (Value.L y) e hm1
 refine ⟨_,_,zcR ho hc ha ht (by rw [hs,hx,ex,hyv];exact hr),_,h,zcz hw hd hf (wf_p hw) (zcB hW (wf_p hw) ⟨by rw [List.length_append,hxl,hl,Nat.add_mul],.inr ⟨W.heap.size,_,_,rfl,Nat.zero_le _,heap_alloc_new W.drew _,hge,hcm,?_,?_⟩⟩ ⟨rfl,rfl,rfl,by simp,fun k hk _=>Below.heap_alloc W.drew _ k hk⟩ (.inl rfl))⟩
 ·simp only [Array.size_append,List.size_toArray,size_zeroCells,hxl,hl,← Nat.add_mul,show zv.cells.size=szT P e by rw [hzc];simpa using hzl]
  congr 1
  omega
 ·simp only [Array.toList_append,List.append_assoc]
  rw [← List.append_assoc,show (Value.L y+m) * szT P e=(xs ++ ys).length by rw [List.length_append,hxl,hl,Nat.add_mul]]
  exact List.take_left
end
open Go Go.RowKit
section
variable {P:Program} {W0:Base} {h0:Hp} {N:Nat} {st:St} {g:Bool}
theorem Conc.put_q {ρ:Rho} {a:Act} {W:World} {d:Option Nat} {c:Bool} {sv:SV} {v:Value} (hw:st.wf=true) (hd:∀ d',d=some d'→d' < N) (hf:FOk N ρ st.e a) (hW:WOk W0 h0 ρ st.p st.h W) (hl:sv.lt st.nx=true)
  (hv:v=if c=true then sv.conc ρ else undef):Conc W0 h0 N (st.put d c sv) (a.put d v) W :=
 Conc.put_ hf hW (wf_p hw) (wf_e hw) hd hl hv
def Did (P:Program) (W0:Base) (h0:Hp) (N:Nat) (ops:List Oper) (o:Oper) (K:St→Prop) (Q:Exit→Act→World→Prop) (a:Act) (W:World):Prop :=
 (Region.wanted o (yielded ops.toArray a.tmps)=true∧o.wp P a W (fun a' W'=>∃ st',K st'∧Conc W0 h0 N st' a' W') Q) ∨
 (Region.wanted o (yielded ops.toArray a.tmps)=false∧∃ st',K st'∧Conc W0 h0 N st' (a.put o.dst undef) W)
theorem zcU {ops:List Oper} {o:Oper} {K:St→Prop} {Q:Exit→Act→World→Prop} {ρ:Rho} {a:Act} {W:World} {sv:SV} (hw:st.wf=true) (hd:∀ d',o.dst=some d'→d' < N) (hf:FOk N ρ st.e a) (hW:WOk W0 h0 ρ st.p st.h W)
  (hg:Region.wanted o (yielded ops.toArray a.tmps)=g) (hk:K (st.put o.dst g sv)) (hl:sv.lt st.nx=true) (hy:g=true→Yv P W0 h0 N st o sv):Did P W0 h0 N ops o K Q a W:=by
 cases g with
 | true=>exact .inl ⟨hg,zcr (hy rfl ρ a W hf hW) ⟨_,hk,Conc.put_q hw hd hf hW hl rfl⟩⟩
 | false=>exact .inr ⟨hg,_,hk,Conc.put_q hw hd hf hW hl rfl⟩
theorem zcV {ops:List Oper} {o:Oper} {K:St→Prop} {Q:Exit→Act→World→Prop} {ρ:Rho} {a:Act} {W:World} (hg:Region.wanted o (yielded ops.toArray a.tmps)=true) (h:Runs P W0 h0 N o K ρ a W):Did P W0 h0 N ops o K Q a W:=by
 obtain ⟨v,W',hr,hk⟩:=h
 exact .inl ⟨hg,zcr hr hk⟩
theorem SV.mapconc {vs:List SV} (h:(vs.all (·.plain))=true) (ρ:Rho):vs.map (·.conc ρ)=vs.map (·.pv) :=
 List.map_congr_left fun x hx=>SV.pv_conc (List.all_eq_true.1 h x hx) ρ
theorem zcW {vf:SV} {vs:List SV} {K:Value→Hp→Prop} (h:zcj P st g vf vs K):∃ fn fs cs,vf=.c (.v (.func (.func fn) fs cs)):=by
 unfold zcj at h
 split at h
 ·exact ⟨_,_,_,rfl⟩
 ·exact h.elim
theorem zcX {ops:List Oper} {o:Oper} {c:Call} {f:Operand} {K:St→Prop} {Q:Exit→Act→World→Prop} {ρ:Rho} {a:Act} {W:World} (ho:o.op=.call c) (hc:c.callee=.value f) (hw:st.wf=true) (hd:∀ d',o.dst=some d'→d' < N)
  (hf:FOk N ρ st.e a) (hW:WOk W0 h0 ρ st.p st.h W) (hg:Region.wanted o (yielded ops.toArray a.tmps)=g)
  (h:getO st g f fun vf=>zaC st g c.args.toList fun vs=>zcj P st g vf vs fun v h'=>K (St.mk (zb5 st.e o.dst g (.of v)) st.p h' st.nx)):Did P W0 h0 N ops o K Q a W:=by
 obtain ⟨vf,h,_,hvf⟩:=zaB (N:=N) hw h
 obtain ⟨vs,h,_,_,hvs⟩:=zaD (N:=N) hw h
 obtain ⟨fn,fs,cs,rfl⟩:=zcW h
 ·obtain ⟨hp,h⟩:=h
  unfold vfn at h
  obtain ⟨R,hfn,h⟩:=h
  cases g with
  | false =>
   rcases h with h|⟨V,_,hk⟩
   ·exact absurd h.1 (by simp)
   ·exact .inr ⟨hg,_,hk,Conc.put_ (h:=st.h) hf hW (wf_p hw) (wf_e hw) hd (SV.of_lt _ _) (by simp)⟩
  | true =>
   have hfn:=hfn rfl
   unfold Ct at hfn
   obtain ⟨hcall,hcalls⟩:=hfn
   replace hvf:=hvf rfl ρ a hf
   replace hvs:=hvs rfl ρ a hf
   rw [SV.mapconc hp] at hvs
   have hrun:(execOp a.eval o).run P W=.ok (.enter fn (fs.toList ++ (vs.map (·.pv) ++ cs.toList)).toArray) W:=by
    obtain ⟨callee,args,ats⟩:=c
    simp only at hc hvs
    subst hc
    have e1:args.map a.eval=(vs.map (·.pv)).toArray:=Array.toList_inj.1 (by rw [Array.toList_map,hvs])
    simp only [execOp,ho]
    simp only [resolve,hvf,zak,zah,e1,Sem.run_bind,Deferred.ofValue,Sem.run_pure,Result.andThen_ok,invoke]
    rw [hcall]
    congr 3
    apply Array.toList_inj.1
    simp
   have hK:∀ v h',R v h'→st.h.le h'→K (St.mk (zb5 st.e o.dst true (.of v)) st.p h' st.nx):=by
    intro v h' hR hle
    rcases h with h|⟨V,hV,hk⟩
    ·exact h.2 v h' hle hR
    ·obtain ⟨rfl,rfl⟩:=hV v h' hR;exact hk
   refine .inl ⟨hg,?_⟩
   unfold Oper.wp
   rw [hrun]
   simp only [Oper.upon]
   refine (hcalls W hW.sees).mono ?_
   rintro e W' ⟨v,h',rfl,hR,hb,hle,hs,hn⟩
   exact ⟨_,hK v h' hR hle,Conc.put_ (c:=true) hf (hW.grow hb hle hs hn) (wf_p hw) (wf_e hw) hd (SV.of_lt _ _) (by simp [SV.conc_of])⟩
theorem zcY {ops:List Oper} {o:Oper} {K:St→Prop} {Q:Exit→Act→World→Prop} {a:Act} {W:World} (hd:∀ d',o.dst=some d'→d' < N) (h:vop P ops st o K) (hC:Conc W0 h0 N st a W):Did P W0 h0 N ops o K Q a W:=by
 obtain ⟨ρ,hf,hW,hw⟩:=hC
 obtain ⟨g,h,hg⟩:=zcn (N:=N) rfl h
 replace hg:=hg ρ a hf
 have quiet:(vq P st g o.op fun sv=>K (st.put o.dst g sv))→Did P W0 h0 N ops o K Q a W:=by
  intro h
  obtain ⟨sv,h1,h2,h3⟩:=zbS (P:=P) (W0:=W0) (h0:=h0) (N:=N) hw h
  exact zcU hw hd hf hW hg h1 h2 h3
 generalize hop:o.op=op at h
 cases op <;> simp only [vopG] at h <;> first|exact h.elim|(exact quiet (by rw [hop];exact h))|skip
 case alloc t=>obtain ⟨rfl,h⟩:=h;exact zcV hg (zcx hop hw hd hf hW h)
 case box t x=>obtain ⟨rfl,h⟩:=h;exact zcV hg (zcy hop hw hd hf hW h)
 case buildSlice t n ps=>obtain ⟨rfl,h⟩:=h;exact zcV hg (zcN hop hw hd hf hW h)
 case makeSlice t l c=>obtain ⟨rfl,h⟩:=h;exact zcV hg (zcC hop hw hd hf hW h)
 case store t x y =>
  obtain ⟨rfl,hn,h⟩:=h
  obtain ⟨W',hr,hk⟩:=zcH hop hn hw hf hW h
  refine .inl ⟨hg,?_⟩
  unfold Oper.wp
  rw [hr]
  exact hk
 case call c =>
  unfold zck at h
  split at h
  ·rename_i f hc
   exact zcX hop hc hw hd hf hW hg h
  ·rename_i hc
   obtain ⟨rfl,h⟩:=h
   split at h
   ·rename_i s x t t' ha ht
    obtain ⟨rfl,h⟩:=h
    obtain ⟨vs,k1,_,hs⟩:=zaB (N:=N) hw h
    obtain ⟨vx,k2,_,hx⟩:=zaB (N:=N) hw k1
    clear k1 h
    replace hs:=hs rfl ρ a hf
    replace hx:=hx rfl ρ a hf
    cases vs with
    | g _=>exact k2.elim
    | c vs=>cases vs with
    | p _ _=>exact k2.elim
    | s r=>exact zcV hg (zcS hop hc ha ht hw hd hf hW hs hx k2)
    | v y =>
     unfold zcg at k2
     by_cases hy:zcf y=true
     ·simp only [hy,if_true] at k2
      have hy:y=.slice none 0 0:=by unfold zcf at hy;split at hy <;> first|rfl|cases hy
      subst hy
      exact zcV hg (zcS hop hc ha ht hw hd hf hW hs hx k2)
     ·simp only [hy,if_false,Bool.false_eq_true] at k2
      exact zcV hg (zcT hop hc ha ht hw hd hf hW hs hx k2)
   ·exact h.elim
  ·rename_i b _ hc
   refine quiet ?_
   rw [hop]
   simp only [vq,hc]
   exact h
  ·exact h.elim
def zcZ (N:Nat):List Oper→Bool
 | []=>true
 | o :: l=>(match o.dst with|some d=>decide (d < N)|none=>true) && zcZ N l
theorem zc0 {ops:List Oper} {Q:Exit→Act→World→Prop}:∀ {l:List Oper} {st:St} {K:St→Prop} {a:Act} {W:World},zcZ N l=true→(∀ st' a' W',K st'→Conc W0 h0 N st' a' W'→Q .normal a' W')→vops P ops l st K→Conc W0 h0 N st a W →
  wpList P ops.toArray Q l a W
 | [],st,K,a,W,_,hQ,h,hC=>hQ st a W h hC
 | o :: l,st,K,a,W,hd,hQ,h,hC=>by
  simp only [zcZ,jJ] at hd
  have hd1:∀ d',o.dst=some d'→d' < N:=by
   intro d' e
   have:=hd.1
   rw [e] at this
   simpa using this
  have:=zcY (Q:=Q) hd1 h hC
  simp only [wpList]
  rcases this with ⟨hw,hwp⟩|⟨hw,st',hk,hC'⟩
  ·rw [if_pos hw]
   left
   refine Oper.wp_mono ?_ hwp
   rintro a' W' ⟨st',hk,hC'⟩
   exact zc0 hd.2 hQ hk hC'
  ·rw [if_neg (by simp [hw])]
   exact zc0 hd.2 hQ hk hC'
structure Cx where
 P:Program
 W0:Base
 h0:Hp
 N:Nat
@[irreducible] def T (x:Cx) (st:St) (c:Code) (Q:Exit→St→Prop):Prop :=
 ∀ a W,Conc x.W0 x.h0 x.N st a W→c.wp x.P (fun e a' W'=>∃ st',Q e st'∧Conc x.W0 x.h0 x.N st' a' W') a W
def zc1 (n:St→Prop) (Q:Exit→St→Prop):Exit→St→Prop
 | .normal,st=>n st
 | e,st=>Q e st
def zc2 (id:Nat) (Q:Exit→St→Prop):Exit→St→Prop
 | .exit i,st=>if i=id then Q .normal st else Q (.exit i) st
 | e,st=>Q e st
end
section
variable {x:Cx} {st:St} {Q:Exit→St→Prop}
theorem zc3 {c d:Code} (h:T x st c (zc1 (fun st'=>T x st' d Q) Q)):T x st (.seq c d) Q:=by
 unfold T at *
 intro a W hC
 refine wp_seq (Code.wp_mono ?_ (h a W hC))
 rintro e a' W' ⟨st',hq,hC'⟩
 cases e with
 | normal=>exact hq a' W' hC'
 | _=>exact ⟨st',hq,hC'⟩
theorem zc4 {id:Nat} {ops:List Oper} (hd:zcZ x.N ops=true) (h:vops x.P ops ops st fun st'=>Q .normal st'):T x st (.region id ops.toArray false) Q:=by
 unfold T
 intro a W hC
 exact wp_region_lit (zc0 hd (fun st' a' W' hk hC'=>⟨st',hk,hC'⟩) h hC)
theorem zc5 (h:Q .normal st):T x st .skip Q:=by
 unfold T;exact fun a W hC=>wp_skip ⟨st,h,hC⟩
theorem zc6 {id:Nat} (h:Q (.exit id) st):T x st (.exit id) Q:=by
 unfold T;exact fun a W hC=>wp_exit ⟨st,h,hC⟩
theorem zc7 (h:Q .ret st):T x st .ret Q:=by
 unfold T;exact fun a W hC=>wp_ret ⟨st,h,hC⟩
theorem zc8 {id:Nat} {c:Code} (h:T x st c (zc2 id Q)):T x st (.block id c) Q:=by
 unfold T at *
 intro a W hC
 refine wp_block (Code.wp_mono ?_ (h a W hC))
 rintro e a' W' ⟨st',hq,hC'⟩
 cases e with
 | exit i =>
  simp only [Exit.inBlock,zc2] at hq ⊢
  split
  ·rename_i hi;rw [if_pos hi] at hq;exact ⟨st',hq,hC'⟩
  ·rename_i hi;rw [if_neg hi] at hq;exact ⟨st',hq,hC'⟩
 | _=>exact ⟨st',hq,hC'⟩
theorem zc9 {t:Tmp} {c d:Code} {b:Bool} (hb:look t st.e=some (true,.c (.v (.bool b)))) (ht:b=true→T x st c Q) (hf:b=false→T x st d Q):T x st (.cond (.tmp t) c d) Q:=by
 unfold T at *
 intro a W hC
 have hC':=hC
 obtain ⟨ρ,hfo,_,_⟩:=hC'
 have h1:=hfo.2.2 t true _ hb
 refine wp_cond_split (t:=b) (by simp [Act.eval,Array.getD_eq_getD_getElem?,h1]) (fun e=>ht e a W hC) (fun e=>hf e a W hC)
def leE (e:Env):Env→Prop
 | []=>True
 | (t,y) :: l=>look t e=some y∧leE e l
def leP (p:List (Nat × PB)):List (Nat × PB)→Prop
 | []=>True
 | (r,b) :: l=>look r p=some b∧leP p l
def St.le (st st':St):Prop:=leE st.e st'.e∧leP st.p st'.p∧st'.h=st.h∧st'.wf=true
theorem zda {e:Env}:∀ {e':Env},leE e e'→∀ t y,look t e'=some y→look t e=some y
 | [],_,_,_,h=>by cases h
 | (k,x) :: l,h,t,y,hl=>by
  simp only [look] at hl
  split at hl
  ·rename_i hk;subst hk;simp only [Option.some.injEq] at hl;subst hl;exact h.1
  ·exact zda h.2 t y hl
theorem zdb {p:List (Nat × PB)}:∀ {p':List (Nat × PB)},leP p p'→∀ t y,look t p'=some y→look t p=some y
 | [],_,_,_,h=>by cases h
 | (k,x) :: l,h,t,y,hl=>by
  simp only [look] at hl
  split at hl
  ·rename_i hk;subst hk;simp only [Option.some.injEq] at hl;subst hl;exact h.1
  ·exact zdb h.2 t y hl
theorem Conc.weaken {W0:Base} {h0:Hp} {N:Nat} {st st':St} {a:Act} {W:World} (h:st.le st') (hC:Conc W0 h0 N st a W):Conc W0 h0 N st' a W:=by
 obtain ⟨h1,h2,h3,h4⟩:=h
 obtain ⟨ρ,hf,hW,hw⟩:=hC
 refine ⟨ρ,⟨hf.1,hf.2.1,fun t c sv hl=>hf.2.2 t c sv (zda h1 t _ hl)⟩,?_,h4⟩
 rw [h3]
 exact hW.drop (zdb h2)
theorem zdd {P:Program} {c:Code} {Q:Exit→Act→World→Prop} {ι:Type} (I:ι→Act→World→Prop) (μ:ι→Nat)
  (round:∀ i a w,I i a w→c.wp P (Exit.then (fun a' w'=>∃ j,μ j < μ i∧I j a' w') Q) a w):∀ i a w,I i a w→(Code.loop c).wp P Q a w:=by
 intro i a w h b k cs
 have key:∀ n i a w,μ i=n→I i a w →
   ∃ e a' w',Q e a' w'∧Arrives P (lone (b.at a (.code c :: .inLoop c :: k)) cs w) b k cs e a' w':=by
  intro n
  induction n using Nat.strongRecOn with
  | _ n ih =>
   intro i a w hn hI
   obtain ⟨e,a₁,w₁,hq,harr⟩:=round i a w hI b (.inLoop c :: k) cs
   cases e with
   | normal =>
    obtain ⟨j,hlt,hI₁⟩:=hq
    obtain ⟨e₂,a₂,w₂,hq₂,harr₂⟩:=ih (μ j) (hn ▸ hlt) j a₁ w₁ rfl hI₁
    exact ⟨e₂,a₂,w₂,hq₂,.of_steps (Steps.trans harr (.one step_inLoop)) harr₂⟩
   | exit id=>exact ⟨_,a₁,w₁,hq,.pass (x:=.inLoop c) rfl (fun _ _=>.inl (by simp)) harr⟩
   | goto l=>exact ⟨_,a₁,w₁,hq,.pass (x:=.inLoop c) rfl (fun _ _=>.inl (by simp)) harr⟩
   | ret=>exact ⟨_,a₁,w₁,hq,.pass (x:=.inLoop c) rfl (fun _ _=>.inl (by simp)) harr⟩
   | panic ch=>exact ⟨_,a₁,w₁,hq,.pass (x:=.inLoop c) rfl (fun _ _=>.inl (by simp)) harr⟩
   | outgrown=>exact ⟨_,a₁,w₁,hq,.pass (x:=.inLoop c) rfl (fun _ _=>.inl (by simp)) harr⟩
 obtain ⟨e,a',w',hq,harr⟩:=key _ i a w rfl h
 exact ⟨e,a',w',hq,.of_steps (.one step_loop) harr⟩
theorem zde {ι:Type} {c:Code} (S:ι→St) (ok:ι→Prop) (m:ι→Nat) (i0:ι) (h0:ok i0) (hle:st.le (S i0))
  (hr:∀ i,ok i→T x (S i) c (zc1 (fun st'=>∃ j,ok j∧m j < m i∧st'.le (S j)) Q)):T x st (.loop c) Q:=by
 unfold T at *
 intro a W hC
 refine zdd (fun i a' W'=>ok i∧Conc x.W0 x.h0 x.N (S i) a' W') m ?_ i0 a W ⟨h0,hC.weaken hle⟩
 rintro i a W ⟨hi,hC⟩
 refine Code.wp_mono ?_ (hr i hi a W hC)
 rintro e a' W' ⟨st',hq,hC'⟩
 cases e with
 | normal =>
  obtain ⟨j,hj,hlt,hle⟩:=hq
  exact ⟨j,hlt,hj,hC'.weaken hle⟩
 | _=>exact ⟨st',hq,hC'⟩
def zdf (P:Program) (st:St) (r:ResultVar) (K:Value→Prop):Prop :=
 match r with
 | .tmp t=>onD (some t) fun t=>match look t st.e with
  | some (c,sv)=>c=true∧sv.plain=true∧K sv.pv
  | none=>False
 | .cell t ty=>match look t st.e with
  | some (c,sv)=>c=true∧za2 P st true ty sv fun v=>v.plain=true∧K v.pv
  | none=>False
def zdg (P:Program) (st:St):List ResultVar→(List Value→Prop)→Prop
 | [],K=>K []
 | r :: rs,K=>zdf P st r fun v=>zdg P st rs fun vs=>K (v :: vs)
def zdh:List Value→Value
 | [v]=>v
 | vs=>.tuple vs.toArray
theorem zdi {P:Program} {W0:Base} {h0:Hp} {N:Nat} {st:St} {r:ResultVar} {K:Value→Prop} (hw:st.wf=true) (h:zdf P st r K) :
  ∃ v,K v∧∀ ρ a W,FOk N ρ st.e a→WOk W0 h0 ρ st.p st.h W→(match r with
   | .tmp t=>(pure (a.tmps.getD t undef):Sem Value)
   | .cell ad t=>do loadVar t (← asAddr (a.tmps.getD ad undef))).run P W=.ok v W:=by
 cases r with
 | tmp t =>
  simp only [zdf,onD] at h
  split at h
  ·rename_i c sv hl
   obtain ⟨rfl,hp,hk⟩:=h
   refine ⟨_,hk,fun ρ a W hf _=>?_⟩
   have:=hf.2.2 t true sv hl
   simp [Array.getD_eq_getD_getElem?,this,SV.pv_conc hp]
  ·cases h
 | cell t ty =>
  simp only [zdf] at h
  split at h
  ·rename_i c sv hl
   obtain ⟨rfl,h⟩:=h
   obtain ⟨v,⟨hp,hk⟩,_,hr⟩:=za7 (W0:=W0) (h0:=h0) hw h
   refine ⟨_,hk,fun ρ a W hf hW=>?_⟩
   have h1:=hf.2.2 t true sv hl
   have h2:(Instr.loadAt ty (sv.conc ρ)).run P W=.ok (v.conc ρ) W:=hr rfl ρ W hW
   rw [SV.pv_conc hp] at h2
   have h3:a.tmps.getD t undef=sv.conc ρ:=by simp [Array.getD_eq_getD_getElem?,h1]
   simp only [h3]
   simp only [Instr.loadAt] at h2
   generalize sv.conc ρ=y at h2
   cases y with
   | pointer ad =>
    cases ad with
    | none=>simp [Instr.sureAddr,stuck,Sem.run_bind,Sem.run] at h2
    | some ad=>simpa [Instr.sureAddr,asAddr,Sem.run_bind] using h2
   | _=>simp [Instr.sureAddr,stuck,Sem.run_bind,Sem.run] at h2
  ·cases h
theorem zdj {P:Program} {W0:Base} {h0:Hp} {N:Nat} {st:St} (hw:st.wf=true):∀ {rs:List ResultVar} {K:List Value→Prop},zdg P st rs K →
  ∃ vs,K vs∧∀ ρ a W,FOk N ρ st.e a→WOk W0 h0 ρ st.p st.h W→(rs.mapM (m:=Sem) fun
   | .tmp t=>pure (a.tmps.getD t undef)
   | .cell ad t=>do loadVar t (← asAddr (a.tmps.getD ad undef))).run P W=.ok vs W
 | [],K,h=>⟨[],h,fun _ _ _ _ _=>rfl⟩
 | r :: rs,K,h=>by
  obtain ⟨v,h,h1⟩:=zdi (W0:=W0) (h0:=h0) (N:=N) hw h
  obtain ⟨vs,h,h2⟩:=zdj (P:=P) hw h
  refine ⟨v :: vs,h,fun ρ a W hf hW=>?_⟩
  rw [List.mapM_cons]
  rw [Sem.run_bind]
  have e1:=h1 ρ a W hf hW
  have e2:=h2 ρ a W hf hW
  cases r <;> simp only at e1 <;> simp only [e1,Result.andThen_ok,Sem.run_bind,e2,Sem.run_pure]
def zdk:Nat→List Value→Env
 | _,[]=>[]
 | i,v :: vs=>(i,true,.of v) :: zdk (i+1) vs
theorem zdl:∀ {vs:List Value} {i t:Nat} {c:Bool} {sv:SV},look t (zdk i vs)=some (c,sv)→∃ j v,t=i+j∧vs[j]?=some v∧c=true∧sv=.of v
 | [],_,_,_,_,h=>by cases h
 | v :: vs,i,t,c,sv,h=>by
  simp only [zdk,look] at h
  split at h
  ·rename_i e;simp only [Option.some.injEq,Prod.mk.injEq] at h;exact ⟨0,v,by omega,rfl,h.1.symm,h.2.symm⟩
  ·obtain ⟨j,u,h1,h2,h3,h4⟩:=zdl h
   exact ⟨j+1,u,by omega,by simpa using h2,h3,h4⟩
theorem zdm:∀ {vs:List Value} {i n:Nat},zam n (zdk i vs)=true
 | [],_,_=>rfl
 | v :: vs,i,n=>by simp [zdk,zam,SV.of_lt,zdm]
theorem zdn {P:Program} {f:FuncId} {fn:Func} {c:Code} {args:List Value} {h:Hp} {R:Value→Hp→Prop} {rs:List ResultVar} (hcall:∀ A W,(callFunc f A).run P W=.ok (.enter f A) W) (hf:P.funcs[f]?=some fn) (hb:fn.body=some c) (hrs:fn.results=rs.toArray)
  (hN:args.length≤fn.ntmps)
  (H:∀ W0,T ⟨P,W0,h,fn.ntmps⟩ ⟨zdk 0 args,[],h,0⟩ c fun e st=>match e with
   | .normal=>zdg P st rs fun vs=>R (zdh vs) st.h
   | .ret=>zdg P st rs fun vs=>R (zdh vs) st.h
   | _=>False):Ct P f args h R:=by
 unfold Ct
 refine ⟨hcall,fun W hs=>calls_of_wp hf hb ?_⟩
 have hin:∀ b o,h b=some o→b < W.heap.size:=fun b o hb=>(Array.getElem?_eq_some_iff.1 (hs b o hb)).1
 have H:=H ⟨W,fun g=>W.heap.size≤g,fun _ x=>x⟩
 unfold T at H
 refine Code.wp_mono ?_ (H _ W ⟨fun _=>undef,⟨rfl,by simp;omega,fun t cc sv hl=>?_⟩,⟨⟨rfl,rfl,rfl,Nat.le_refl _,fun _ _=>rfl⟩,hs,fun b o x _=>x,fun b o h1 h2=>?_,fun r b g hr=>(by cases hr),fun r b hr=>(by cases hr),fun r b g hr=>(by cases hr),fun r b r' b' g hr=>(by cases hr)⟩,?_⟩)
 ·rintro e a' W' ⟨st',hq,⟨ρ,hfo,hW,hw⟩⟩
  have fin:(zdg P st' rs fun vs=>R (zdh vs) st'.h)→a'.defers=[]∧∃ v,(results fn a'.tmps).run P W'=.ok v W'∧∃ v' h',Ending.returned v=.returned v'∧R v' h'∧Below W.heap.size W W'∧h.le h'∧Sees h' W'∧∀ b o,h' b=some o→h b=none→W.heap.size≤b:=by
   intro hres
   obtain ⟨vs,hk,hrun⟩:=zdj (P:=P) (W0:=⟨W,fun g=>W.heap.size≤g,fun _ x=>x⟩) (h0:=h) (N:=fn.ntmps) hw hres
   refine ⟨hfo.1,zdh vs,?_,_,_,rfl,hk,⟨hW.below.os,hW.below.tape,hW.below.output,hW.below.size,fun k hk=>hW.below.block k (Nat.not_le_of_lt hk)⟩,fun b o hb=>hW.ext b o hb (Nat.not_le_of_lt (hin b o hb)),hW.sees,hW.new⟩
   have h1:(rs.toArray.toList.mapM (m:=Sem) fun
    | .tmp t=>pure (a'.tmps.getD t undef)
    | .cell ad t=>do loadVar t (← asAddr (a'.tmps.getD ad undef))).run P W'=.ok vs W':=hrun ρ a' W' hfo hW
   unfold results
   rw [hrs,Sem.run_bind,Array.mapM_eq_mapM_toList]
   have e:∀ m:Sem (List Value),(List.toArray <$> m)=m >>= fun l=>pure l.toArray:=fun _=>rfl
   rw [e,Sem.run_bind]
   refine Eq.trans (congrArg (fun (r:Result (List Value))=>(r.andThen fun a w'=>Sem.run P (pure a.toArray) w').andThen fun a w'=>Sem.run P (pure (if h:a.size=1 then a[0] else Value.tuple a)) w') h1) ?_
   simp only [Result.andThen_ok,Sem.run_pure]
   match vs with
   | []=>rfl
   | [v]=>rfl
   | _ :: _ :: _=>rfl
  cases e with
  | normal=>exact fin hq
  | ret=>exact fin hq
  | _=>exact hq.elim
 ·obtain ⟨j,v,h1,h2,rfl,rfl⟩:=zdl hl
  have hj:j < args.length:=(List.getElem?_eq_some_iff.1 h2).1
  rw [if_pos rfl,SV.conc_of,h1,Nat.zero_add]
  have:=(List.getElem?_eq_some_iff.1 h2).2
  simp [Array.getElem?_append,hj,this]
 ·exact absurd (h1.symm.trans h2) (by simp)
 ·simp [St.wf,zdm,pbLt]
end
end Go.SL
