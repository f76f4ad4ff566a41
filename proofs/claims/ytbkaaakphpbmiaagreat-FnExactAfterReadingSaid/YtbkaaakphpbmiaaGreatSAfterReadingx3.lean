/- Plain theorems about the model. -/
import Derived.Deep.Fields
import Derived.Deep.Slices
import Derived.ProofKit
import Derived.Test.YtbkaaakphpbmiaaGreatSAfterReadingx2
set_option linter.unusedVariables false
set_option linter.unusedSimpArgs false
set_option maxRecDepth 4000
open Nat renaming reduceAdd → jq, reduceMul → jj, reduceBEq → jy, reduceLeDiff → jv, reduceLT → jk, reduceEqDiff → jx
open Bool renaming or_eq_false_iff → jp, or_eq_true → jQ, and_eq_true → jJ
open Int renaming toNat_natCast → jW, natCast_nonneg → jY
namespace Go.SL
open Go Go.RowKit
def SC.sub (r:Nat) (v:Value):SC→SC
 | .v x=>.v x
 | .s r'=>if r'=r then .v v else .s r'
 | .p r' o=>if r'=r then .v (.pointer (some ⟨blk v,o,none⟩)) else .p r' o
def SV.sub (r:Nat) (v:Value):SV→SV
 | .c x=>.c (x.sub r v)
 | .g cs=>.g (cs.map (·.sub r v))
def subE (r:Nat) (v:Value):Env→Env
 | []=>[]
 | (t,c,sv) :: e=>(t,c,sv.sub r v) :: subE r v e
def PB.sub (r:Nat) (v:Value):PB→PB
 | .box ty cs=>.box ty (cs.map (·.sub r v))
 | .row e sz n xs=>.row e sz n xs
def subP (r:Nat) (v:Value):List (Nat × PB)→List (Nat × PB)
 | []=>[]
 | (k,b) :: p=>(k,b.sub r v) :: subP r v p
def St.sub (st:St) (r:Nat) (v:Value) (h':Hp):St:=⟨subE r v st.e,subP r v (zb2 r st.p),h',st.nx⟩
section
variable {r:Nat} {v:Value} {ρ:Rho} {n:Nat}
theorem SC.sub_conc (hv:ρ r=v) (x:SC):(x.sub r v).conc ρ=x.conc ρ:=by
 cases x with
 | v x=>rfl
 | s r'=>simp only [SC.sub];split <;> simp_all
 | p r' o=>simp only [SC.sub];split <;> simp_all
theorem SV.sub_conc (hv:ρ r=v) (x:SV):(x.sub r v).conc ρ=x.conc ρ:=by
 cases x with
 | c x=>exact SC.sub_conc hv x
 | g cs=>simp only [SV.sub,zal,List.map_map];congr 2;exact List.map_congr_left fun x _=>SC.sub_conc hv x
theorem SC.sub_lt {x:SC} (h:x.lt n=true):(x.sub r v).lt n=true:=by
 cases x with
 | v x=>rfl
 | s r'=>simp only [SC.sub];split <;> first|rfl|exact h
 | p r' o=>simp only [SC.sub];split <;> first|rfl|exact h
theorem SV.sub_lt {x:SV} (h:x.lt n=true):(x.sub r v).lt n=true:=by
 cases x with
 | c x=>exact SC.sub_lt h
 | g cs =>
  simp only [SV.sub,SV.lt,List.all_eq_true,List.mem_map] at h ⊢
  rintro _ ⟨y,hy,rfl⟩
  exact SC.sub_lt (h y hy)
theorem zjK {t:Nat} {c:Bool} {sv':SV}:∀ {e:Env},look t (subE r v e)=some (c,sv')→∃ sv,look t e=some (c,sv)∧sv'=sv.sub r v
 | [],h=>by cases h
 | (k,c',sv) :: e,h=>by
  simp only [subE,look] at h ⊢
  split at h
  ·rename_i hk;rw [if_pos hk];simp only [Option.some.injEq,Prod.mk.injEq] at h;exact ⟨sv,by rw [h.1],h.2.symm⟩
  ·rename_i hk;rw [if_neg hk];exact zjK h
theorem zjL {t:Nat} {b':PB}:∀ {p:List (Nat × PB)},look t (subP r v p)=some b'→∃ b,look t p=some b∧b'=b.sub r v
 | [],h=>by cases h
 | (k,b) :: e,h=>by
  simp only [subP,look] at h ⊢
  split at h
  ·rename_i hk;rw [if_pos hk];simp only [Option.some.injEq] at h;exact ⟨b,rfl,h.symm⟩
  ·rename_i hk;rw [if_neg hk];exact zjL h
theorem zjM:∀ {e:Env},zam n e=true→zam n (subE r v e)=true
 | [],_=>rfl
 | (k,c,sv) :: e,h=>by
  simp only [zam,jJ,subE] at h ⊢
  exact ⟨SV.sub_lt h.1,zjM h.2⟩
theorem zjN:∀ {p:List (Nat × PB)},pbLt n p=true→pbLt n (subP r v p)=true
 | [],_=>rfl
 | (k,b) :: e,h=>by
  simp only [pbLt,jJ,subP] at h ⊢
  refine ⟨⟨h.1.1,?_⟩,zjN h.2⟩
  cases b with
  | box ty cs =>
   have:=h.1.2
   simp only [PB.sub,PB.lt,List.all_eq_true,List.mem_map] at this ⊢
   rintro _ ⟨y,hy,rfl⟩
   exact SC.sub_lt (this y hy)
  | row=>rfl
theorem PB.ok_sub {base k:Nat} {W:World} {b:PB} (hv:ρ r=v) (h:b.ok base ρ k W):(b.sub r v).ok base ρ k W:=by
 cases b with
 | box ty cs =>
  obtain ⟨g,h1,h2,h3⟩:=h
  refine ⟨g,h1,h2,?_⟩
  rw [h3,List.map_map]
  congr 3
  exact List.map_congr_left fun x _=>(SC.sub_conc hv x).symm
 | row=>exact h
end
def Pub (h:Hp) (e:TypeId) (sz n:Nat) (xs:List Value) (ad:Option Addr) (cap:Nat) (h':Hp):Prop :=
 xs.length=n * sz∧n≤cap∧cap≤maxLen∧((ad=none∧n=0∧cap=0∧h'=h)∨∃ g cur,ad=some ⟨g,0,none⟩∧h g=none∧h'=h.ins g (.cells cur e (0,0))∧cur.size=cap * sz∧cur.toList.take (n * sz)=xs)
theorem Conc.pub {W0:Base} {h0:Hp} {N:Nat} {st:St} {a:Act} {W:World} {r:Nat} {e:TypeId} {sz n:Nat} {xs:List Value} (hr:look r st.p=some (.row e sz n xs)) (hC:Conc W0 h0 N st a W) :
  ∃ ad cap h',Pub st.h e sz n xs ad cap h'∧Conc W0 h0 N (st.sub r (.slice ad n cap) h') a W:=by
 obtain ⟨ρ,hf,hW,hw⟩:=hC
 have hown:=hW.priv r _ hr
 obtain ⟨hl,hown⟩:=hown
 have hsub:∀ {v:Value} {k b'},look k (subP r v (zb2 r st.p))=some b'→∃ b,look k st.p=some b∧k ≠ r∧b'=b.sub r v:=by
  intro v k b' hk
  obtain ⟨b,h1,h2⟩:=zjL hk
  exact ⟨b,(zb3 h1).1,(zb3 h1).2,h2⟩
 have hwf:∀ v h',(st.sub r v h').wf=true:=by
  intro v h'
  simp only [St.wf,St.sub,jJ]
  exact ⟨zjM (wf_e hw),zjN (zb4 (wf_p hw))⟩
 have hfo:∀ v,ρ r=v→FOk N ρ (subE r v st.e) a:=by
  intro v hv
  refine ⟨hf.1,hf.2.1,fun t c sv hl=>?_⟩
  obtain ⟨sv0,h1,rfl⟩:=zjK hl
  rw [SV.sub_conc hv]
  exact hf.2.2 t c sv0 h1
 rcases hown with ⟨hv,hn⟩|⟨g,cap,cur,hv,hb,hg,hcap,hmax,hsz,htk⟩
 ·subst hn
  refine ⟨none,0,st.h,⟨hl,Nat.le_refl _,Nat.zero_le _,.inl ⟨rfl,rfl,rfl,rfl⟩⟩,ρ,hfo _ hv,?_,hwf _ _⟩
  refine ⟨hW.below,hW.sees,hW.ext,hW.new,fun k b' g hk hat=>?_,fun k b' hk=>?_,fun k b' g hk hat=>?_,fun k b k' b' g hk hk' h1 h2=>?_⟩
  ·obtain ⟨b,h1,_,rfl⟩:=hsub hk
   exact hW.own k b g h1 hat
  ·obtain ⟨b,h1,_,rfl⟩:=hsub hk
   exact PB.ok_sub hv (hW.priv k b h1)
  ·obtain ⟨b,h1,_,rfl⟩:=hsub hk
   exact hW.apart k b g h1 hat
  ·obtain ⟨b,h3,_,rfl⟩:=hsub hk
   obtain ⟨b2,h4,_,rfl⟩:=hsub hk'
   exact hW.distinct k b k' b2 g h3 h4 h1 h2
 ·have hatr:PB.at ρ r g:=.inr ⟨n,cap,hv⟩
  have hgn:=hW.apart r _ g hr hatr
  refine ⟨some ⟨g,0,none⟩,cap,st.h.ins g (.cells cur e (0,0)),⟨hl,hcap,hmax,.inr ⟨g,cur,rfl,hgn,rfl,hsz,htk⟩⟩,ρ,hfo _ hv,?_,hwf _ _⟩
  refine ⟨hW.below,fun b o hb'=>?_,fun b o h1 h2=>Hp.ins_le hgn b o (hW.ext b o h1 h2),fun b o hb' h0b=>?_,fun k b' g' hk hat=>?_,fun k b' hk=>?_,fun k b' g' hk hat=>?_,fun k b k' b' g hk hk' h1 h2=>?_⟩
  ·simp only [St.sub,Hp.ins] at hb'
   split at hb'
   ·rename_i e;subst e;simp only [Option.some.injEq] at hb';rw [← hb'];exact hg
   ·exact hW.sees b o hb'
  ·simp only [St.sub,Hp.ins] at hb'
   split at hb'
   ·rename_i e;subst e;exact hW.own r _ _ hr hatr
   ·exact hW.new b o hb' h0b
  ·obtain ⟨b,h1,_,rfl⟩:=hsub hk
   exact hW.own k b g' h1 hat
  ·obtain ⟨b,h1,_,rfl⟩:=hsub hk
   exact PB.ok_sub hv (hW.priv k b h1)
  ·obtain ⟨b,h1,hne,rfl⟩:=hsub hk
   simp only [St.sub,Hp.ins]
   split
   ·rename_i e;subst e
    exact (hne (hW.distinct k b r _ g' h1 hr hat hatr)).elim
   ·exact hW.apart k b g' h1 hat
  ·obtain ⟨b,h3,_,rfl⟩:=hsub hk
   obtain ⟨b2,h4,_,rfl⟩:=hsub hk'
   exact hW.distinct k b k' b2 g h3 h4 h1 h2
theorem zjO {x:Cx} {st:St} {c:Code} {Q:Exit→St→Prop} (r:Nat) {e:TypeId} {sz n:Nat} {xs:List Value} (hr:look r st.p=some (.row e sz n xs))
  (h:∀ ad cap h',Pub st.h e sz n xs ad cap h'→T x (st.sub r (.slice ad n cap) h') c Q):T x st c Q:=by
 unfold T at *
 intro a W hC
 obtain ⟨ad,cap,h',hp,hC'⟩:=hC.pub hr
 exact h ad cap h' hp a W hC'
def zjP (h _h':Hp) (ad:Option Addr):Prop:=∀ a,ad=some a→h a.block=none∧a.off=0∧a.spot=none
def Only (h h':Hp) (ad:Option Addr):Prop:=∀ b,(∀ a,ad=some a→a.block ≠ b)→h' b=h b
theorem Pub.le {h h':Hp} {e:TypeId} {sz n:Nat} {xs:List Value} {ad:Option Addr} {cap:Nat} (H:Pub h e sz n xs ad cap h'):h.le h':=by
 rcases H.2.2.2 with ⟨_,_,_,rfl⟩|⟨g,cur,_,hg,rfl,_⟩
 ·exact Hp.le_refl _
 ·exact Hp.ins_le hg
theorem Pub.fresh {h h':Hp} {e:TypeId} {sz n:Nat} {xs:List Value} {ad:Option Addr} {cap:Nat} (H:Pub h e sz n xs ad cap h'):zjP h h' ad∧Only h h' ad:=by
 rcases H.2.2.2 with ⟨rfl,_,_,rfl⟩|⟨g,cur,rfl,hg,rfl,_⟩
 ·exact ⟨fun a e=>by (cases e),fun b _=>rfl⟩
 ·refine ⟨fun a e=>by cases e;exact ⟨hg,rfl,rfl⟩,fun b hb=>?_⟩
  have:=hb _ rfl
  simp only [Hp.ins]
  rw [if_neg (Ne.symm this)]
theorem Pub.sl {α:Type} [Enc α] {h h':Hp} {e:TypeId} {l:List α} {ad:Option Addr} {cap:Nat} (hp:0 < Enc.size α) (H:Pub h e (Enc.size α) l.length (l.flatMap Enc.enc) ad cap h') (hok:∀ x ∈ l,Enc.ok h x):(Sl.mk ad cap l).Ok h':=by
 have hle:=H.le
 obtain ⟨h1,h2,h3,h4⟩:=H
 refine ⟨h2,fun hne=>?_,fun i x hx=>?_,fun x hx=>Enc.mono hle (hok x hx),h3⟩
 ·rcases h4 with ⟨_,hn,_⟩|⟨g,cur,rfl,_⟩
  ·exact absurd (List.length_eq_zero_iff.1 hn) hne
  ·rfl
 ·have hi:i < l.length:=(List.getElem?_eq_some_iff.1 hx).1
  rcases h4 with ⟨_,hn,_⟩|⟨g,cur,rfl,hg,rfl,hsz,htk⟩
  ·omega
  ·refine zad (Enc.len x) fun j v hj=>?_
   have hjl:j < Enc.size α:=by rw [← Enc.len x];exact (List.getElem?_eq_some_iff.1 hj).1
   have hfl:(l.flatMap Enc.enc)[i * Enc.size α+j]?=some v:=by
    rw [zio Enc.len hp]
    have e1:(i * Enc.size α+j) / Enc.size α=i:=by rw [Nat.add_comm,Nat.add_mul_div_right _ _ hp,Nat.div_eq_of_lt hjl,Nat.zero_add]
    have e2:(i * Enc.size α+j) % Enc.size α=j:=by rw [Nat.add_comm,Nat.add_mul_mod_self_right,Nat.mod_eq_of_lt hjl]
    rw [e1,e2,hx]
    exact hj
   have hlt:i * Enc.size α+j < l.length * Enc.size α:=by
    have:(i+1) * Enc.size α≤l.length * Enc.size α:=Nat.mul_le_mul_right _ hi
    rw [Nat.add_mul,Nat.one_mul] at this
    omega
   rw [← htk,List.getElem?_take,if_pos hlt] at hfl
   simp only [Option.map_some]
   rw [zir,Nat.zero_add]
   have e3:(Addr.add ⟨g,0,none⟩ (i * Enc.size α+j))=⟨g,i * Enc.size α+j,none⟩:=by rw [za4];simp
   rw [e3]
   simp only [Hp.cell,Hp.ins,if_true,Option.isSome_none,Bool.false_eq_true,if_false]
   simpa using hfl
section
variable {r r' o t:Nat} {v:Value} {c:Bool} {sv:SV} {e:Env} {p:List (Nat × PB)} {h h':Hp} {nx:Nat} {x:SC} {cs:List SC}
@[go_sem] theorem zjQ:St.sub ⟨e,p,h,nx⟩ r v h'=⟨subE r v e,subP r v (zb2 r p),h',nx⟩:=rfl
@[go_sem] theorem zjR:subE r v []=[]:=rfl
@[go_sem] theorem zjS:subE r v ((t,c,sv) :: e)=(t,c,sv.sub r v) :: subE r v e:=rfl
@[go_sem] theorem zjT:subP r v []=[]:=rfl
@[go_sem] theorem zjU {b:PB}:subP r v ((t,b) :: p)=(t,b.sub r v) :: subP r v p:=rfl
@[go_sem] theorem zjV:SV.sub r v (.c x)=.c (x.sub r v):=rfl
@[go_sem] theorem zjW:SV.sub r v (.g cs)=.g (cs.map (·.sub r v)):=rfl
@[go_sem] theorem zjX {y:Value}:SC.sub r v (.v y)=.v y:=rfl
@[go_sem] theorem zjY:SC.sub r v (.s r)=.v v:=by simp [SC.sub]
@[go_sem] theorem zjZ (h:(r' == r)=false):SC.sub r v (.s r')=.s r':=by
 have:r' ≠ r:=by simpa using h
 simp [SC.sub,this]
@[go_sem] theorem zj0:SC.sub r v (.p r o)=.v (.pointer (some ⟨blk v,o,none⟩)):=by simp [SC.sub]
@[go_sem] theorem zj1 (h:(r' == r)=false):SC.sub r v (.p r' o)=.p r' o:=by
 have:r' ≠ r:=by simpa using h
 simp [SC.sub,this]
@[go_sem] theorem zj2 {ty:TypeId}:PB.sub r v (.box ty cs)=.box ty (cs.map (·.sub r v)):=rfl
@[go_sem] theorem zj3 {e:TypeId} {sz n:Nat} {xs:List Value}:PB.sub r v (.row e sz n xs)=.row e sz n xs:=rfl
end
open Go Go.RowKit
theorem zOz {α:Type} (n:Nat) (z:List α):(List.replicate n z).flatten=(List.replicate n ()).flatMap fun _=>z:=by
 induction n with
 | zero=>rfl
 | succ n ih=>rw [List.replicate_succ,List.replicate_succ,List.flatten_cons,List.flatMap_cons,ih]
theorem zOA {z:Array Value} (n:Nat) (hz:0 < z.size):(madeCells z (n * z.size)).toList=(List.replicate n z.toList).flatten:=by
 apply List.ext_getElem?
 intro i
 rw [zOz,zio (k:=z.size) (fun _=>by simp) hz]
 simp only [madeCells]
 by_cases hi:i < n * z.size
 ·have hd:i / z.size < n:=(Nat.div_lt_iff_lt_mul hz).2 hi
  have hm:i % z.size < z.size:=Nat.mod_lt _ hz
  simp [hi,hd,hm]
 ·have hd:¬ i / z.size < n:=fun h=>hi ((Nat.div_lt_iff_lt_mul hz).1 h)
  simp [hi,hd]
theorem zOB {e:TypeId} {sz n:Nat} {xs ys:List Value} (h:xs=ys):(some (PB.row e sz n xs):Option PB)=some (PB.row e sz n ys):=by rw [h]
def conv {α:Type} [Enc α] (ds:List α) (n:Nat) (z:List Value):List Value:=ds.flatMap Enc.enc ++ (List.replicate (n - ds.length) z).flatten
theorem zOC {α:Type} [Enc α] {ds:List α} {n:Nat} {z:List Value} (hk:ds.length≤n) (hz:z.length=Enc.size α):(conv ds n z).length=n * Enc.size α:=by
 rw [conv,List.length_append,ziq Enc.len,List.length_flatten,List.map_replicate,List.sum_replicate_nat,hz,← Nat.add_mul]
 congr 1;omega
theorem zOD {α:Type} [Enc α] {ds:List α} {n:Nat} {z:List Value} (hk:n≤ds.length):conv ds n z=ds.flatMap Enc.enc:=by
 rw [conv,Nat.sub_eq_zero_of_le hk];simp
theorem zOE {α:Type} [Enc α] {ds:List α} {d:α} {k n:Nat} {z:List Value} (hd:ds.length=k) (hk:k < n) (hz:z.length=Enc.size α):zbG (k * Enc.size α) (Enc.enc d) (conv ds n z)=conv (ds ++ [d]) n z:=by
 subst hd
 have h1:(ds.flatMap Enc.enc).length=ds.length * Enc.size α:=by rw [ziq Enc.len]
 obtain ⟨m,hm⟩:∃ m,n - ds.length=m+1:=⟨n - ds.length - 1,by omega⟩
 have hm':n - (ds ++ [d]).length=m:=by rw [List.length_append,List.length_singleton];omega
 unfold zbG conv
 rw [hm,hm',List.replicate_succ,List.flatten_cons]
 rw [List.take_left' h1,List.drop_append,h1,Enc.len,List.drop_eq_nil_of_le (by rw [h1];omega),List.nil_append,Nat.add_sub_cancel_left,List.drop_left' hz,List.flatMap_append]
 simp
theorem zOF {α:Type} [Enc α] {n:Nat} {z:Array Value} (hz:0 < z.size):(madeCells z (n * z.size)).toList=conv ([]:List α) n z.toList:=by
 rw [zOA n hz];simp [conv]
section
variable {x y z:Operand} {t t':TypeId} {b:BinOp} {u:UnOp} {n:Nat} {as:Array Operand} {ts:Array TypeId}
@[go_sem] theorem zj5:isQ (.move x)=true:=rfl
@[go_sem] theorem zj6:isQ (.assign x)=true:=rfl
@[go_sem] theorem zj7:isQ (.pick x y z)=true:=rfl
@[go_sem] theorem zj8:isQ (.load t x)=true:=rfl
@[go_sem] theorem zj9:isQ (.nilCheck x)=true:=rfl
@[go_sem] theorem zka:isQ (.binOp b t x y t')=true:=rfl
@[go_sem] theorem zkb:isQ (.unOp u t x)=true:=rfl
@[go_sem] theorem zkc:isQ (.convert t t' x)=true:=rfl
@[go_sem] theorem zkd:isQ (.fieldAddr t x n)=true:=rfl
@[go_sem] theorem zke:isQ (.field t x n)=true:=rfl
@[go_sem] theorem zkf:isQ (.indexAddr t x y)=true:=rfl
@[go_sem] theorem zkg:isQ (.index t x y)=true:=rfl
@[go_sem] theorem zkh:isQ (.extract x n)=true:=rfl
@[go_sem] theorem zki:isQ (.call ⟨.builtin .len,as,ts⟩)=true:=rfl
end
theorem zkj {P:Program} {st:St} {f:FuncId} {xs:List Value} {M:Value→Hp→Prop} {R:Value→Hp→Prop} {h0:Hp} (h:Ct P f xs h0 R) (hh:st.h=h0) (hk:∀ v h',h0.le h'→R v h'→M v h'):vfn P st true f xs M:=by
 subst hh
 exact zhE h hk
open Go Go.RowKit Go.ChangeShapes Go.WideShapes Go.Deep
def vw (w:World):Hp:=fun b=>w.heap[b]?
theorem zkk (w:World):Sees (vw w) w:=fun _ _ h=>h
theorem zkl {w:World} {a:Addr}:(vw w).cell a=w.cell? a:=by
 unfold Hp.cell World.cell? vw
 rfl
theorem zkm {w:World} {base n:Nat} {a:Addr} {cs:List Value} (h:w.cells? base a n=some cs):(vw w).lds (some a) n=some cs:=by
 obtain ⟨_,h1,h2⟩:=World.cells?_some h
 refine zad h1 fun j v hj=>?_
 have hlt:j < n:=by rw [← h1];exact (List.getElem?_eq_some_iff.1 hj).1
 rw [zkl,Nat.zero_add,h2 j hlt,hj]
def Opens (α:Type) [Enc α] (P:Program) (t:TypeId):Prop :=
 ∀ (H:Type) (enc:TypeId × Value→H) (w:World) (base:Nat) (spare:Nat→Bool) (held:Bool) (fuel:Nat) (cs:List Value) (x:DataW H × List MemPlace),
  DataW.trod enc P w base spare held fuel t cs=some x→∃ a:α,cs=Enc.enc a∧Enc.ok (vw w) a
section
variable {P:Program} {t e:TypeId}
theorem zOG (ht:P.underlying t=some (.int .i64)):Opens Int P t:=by
 intro H enc w base spare held fuel cs x h
 obtain ⟨n,rfl,_,wf⟩:=DataW.trod_int ht h
 refine ⟨n,rfl,?_⟩
 simp [Lit.wf] at wf
 simp only [Enc.ok,I64]
 exact wf
theorem zkn {α:Type} [Enc α] (ht:P.underlying t=some (.slice e)) (hC:P.cellsOf e=Enc.size α) (He:Opens α P e):Opens (Sl α) P t:=by
 intro H enc w base spare held fuel cs x h
 rcases open_slice ht h with ⟨rfl,_⟩|⟨a,len,cap,m,n,D,Pl,rfl,_,hl,hm,hmm,_,hi⟩
 ·exact ⟨⟨none,0,[]⟩,rfl,⟨Nat.le_refl _,fun h=>(h rfl).elim,fun i x hx=>by (cases hx),fun x hx=>by (cases hx),Nat.zero_le _⟩⟩
 ·have hle:len≤m:=by rw [hmm];split <;> omega
  have hx:∀ i:Fin len,∃ y:α,(vw w).lds (some (a.add (i.1 * Enc.size α))) (Enc.size α)=some (Enc.enc y)∧Enc.ok (vw w) y:=by
   intro i
   obtain ⟨cs',h1,h2⟩:=hi i.1 (Nat.lt_of_lt_of_le i.2 hle)
   obtain ⟨y,rfl,hy⟩:=He H enc w base spare held n cs' _ h2
   rw [hC] at h1
   exact ⟨y,zkm h1,hy⟩
  let f:Fin len→α:=fun i=>(hx i).choose
  have hf:∀ i,(vw w).lds (some (a.add (i.1 * Enc.size α))) (Enc.size α)=some (Enc.enc (f i))∧Enc.ok (vw w) (f i):=fun i=>(hx i).choose_spec
  refine ⟨⟨some a,cap,List.ofFn f⟩,by simp [Enc.enc,Sl.val],⟨by simpa using hl,fun _=>rfl,fun i x hx=>?_,fun x hx=>?_,hm⟩⟩
  ·simp only [List.getElem?_ofFn] at hx
   split at hx
   ·rename_i hlt
    simp only [Option.some.injEq] at hx
    subst hx
    exact (hf ⟨i,hlt⟩).1
   ·cases hx
  ·obtain ⟨i,rfl⟩:=List.mem_ofFn.1 hx
   exact (hf i).2
theorem zOH {H:Type} {enc:TypeId × Value→H} {w:World} {base:Nat} {spare:Nat→Bool} {held:Bool} {fuel:Nat} {cs:List Value} {x:DataW H × List MemPlace} {fs:Array Field} (ht:P.underlying t=some (.struct fs))
  (h:DataW.trod enc P w base spare held fuel t cs=some x):cs.length=P.cellsOf t∧∀ (i:Nat) (f:Field),fs[i]?=some f→∃ n y,DataW.trod enc P w base spare held n f.type ((cs.drop f.offset).take (P.cellsOf f.type))=some y:=by
 obtain ⟨xs,n,_,_,h1,h2,h3⟩:=DataW.trod_struct ht h
 refine ⟨h1,fun i f hf=>?_⟩
 have hi:i < xs.length:=by rw [h2];exact (Array.getElem?_eq_some_iff.1 hf).1
 exact ⟨n,xs[i],by rw [h3 i f hf,List.getElem?_eq_getElem hi]⟩
theorem Opens.field {α:Type} [Enc α] {t':TypeId} (Ho:Opens α P t') {H:Type} {enc:TypeId × Value→H} {w:World} {base:Nat} {spare:Nat→Bool} {held:Bool} {cs:List Value} {fs:Array Field}
  (h:∀ (i:Nat) (f:Field),fs[i]?=some f→∃ n y,DataW.trod enc P w base spare held n f.type ((cs.drop f.offset).take (P.cellsOf f.type))=some y) (i off sz:Nat) (hf:∃ f,fs[i]?=some f∧f.type=t'∧f.offset=off) (hc:P.cellsOf t'=sz) :
  ∃ a:α,(cs.drop off).take sz=Enc.enc a∧Enc.ok (vw w) a:=by
 obtain ⟨f,h1,rfl,rfl⟩:=hf
 subst hc
 obtain ⟨n,y,h⟩:=h i f h1
 exact Ho H enc w base spare held n _ y h
end
theorem zko {H:Type} {enc:TypeId × Value→H} {P:Program} {f:Func} {s:ChangeSpec} {apart fresh handsOn:Bool} {W W':World} {args:Array Value} {v:Value} {ds:List (DataW H)} {before:List MemPlace}
  (hW:DataW.Whole enc P f.params.toList s.vars apart W args.toList ds [] before) (hb:Below W.heap.size W W')
  (hvs:∀ sp,DataW.TrodVars enc P W' sp s.vars (s.fn H (ds ++ [])).vars [])
  (hres:∀ (b:Nat) (sp:Nat→Bool) (hd:Bool),DataW.TrodAll enc P W' b sp hd f.resultTypes.toList (v.resultList f.resultTypes.size) (s.fn H (ds ++ [])).results [])
  (hargs:∀ sp:Nat→Bool,(∀ p ∈ before,sp p.block=true)→DataW.TrodAll enc P W' 0 sp true f.params.toList args.toList (s.fn H (ds ++ [])).args before) :
  s.post enc P f apart fresh handsOn false W args v W':=by
 have hlt:∀ p ∈ before,p.block < W.heap.size:=fun p hp=>hW.lt p hp
 exact ⟨ds,[],before,[],before,[],hW,hres _ _ _,hargs _ fun p hp=>by simpa using hlt p hp,hvs _,
  World.keptBut_mono (fun p hp=>⟨hp,.inr (.inl hp)⟩) (hb.frame (· ∈ before)),fun h=>by cases h⟩
open Go Go.RowKit
class Con (α:Type) (β:outParam Type) where
 con:α→β
instance:Con Int Int:=⟨id⟩
instance:Con Bool Bool:=⟨id⟩
instance {α β:Type} [Con α β]:Con (Sl α) (List β):=⟨fun s=>s.l.map Con.con⟩
theorem zkq {α β:Type} [Con α β] {s:Sl α}:Con.con s=s.l.map Con.con:=rfl
theorem zkr {s:Sl Int}:Con.con s=s.l:=List.map_id _
def zks (s:ByteArray):Prop:=s.size≤maxLen
instance:Con ByteArray ByteArray:=⟨id⟩
class Blk (α:Type) where
 blk:α→Nat
instance:Blk Int:=⟨fun _=>0⟩
instance:Blk Bool:=⟨fun _=>0⟩
instance:Blk ByteArray:=⟨fun s=>s.size⟩
instance {α:Type} [Blk α]:Blk (Sl α):=⟨fun s=>s.l.length+(s.l.map Blk.blk).sum⟩
theorem zkt {α:Type} [Blk α] {s:Sl α}:Blk.blk s=s.l.length+(s.l.map Blk.blk).sum:=rfl
theorem zOI {α:Type} [Blk α] (h:∀ x:α,Blk.blk x=0) (s:Sl α):Blk.blk s=s.l.length:=by
 have:∀ l:List α,(l.map Blk.blk).sum=0:=fun l=>by induction l with|nil=>rfl|cons x l ih=>rw [List.map_cons,List.sum_cons,h,ih]
 rw [zkt,this,Nat.add_zero]
def zOJ (n:Int) (k:Nat):Int:=if n - k < 0 then -1 else n - k
theorem zOK {n:Int} {i j:Nat} (h:0≤zOJ n i):zOJ (zOJ n i) j=zOJ n (i+j):=by
 unfold zOJ at *
 split at h
 ·omega
 ·rename_i hn
  rw [if_neg hn]
  split <;> split <;> omega
theorem zOL {n:Int} {k:Nat} (h:decide (zOJ n k < 0)=false):0≤zOJ n k:=by simpa using h
theorem zOM {n:Int} {k:Nat} (h:0≤n∧n≤1048576):zOJ n k≤1048576:=by unfold zOJ;split <;> omega
theorem zON {n:Int} {k:Nat} (h:0≤n∧n≤1048576) (h1:0≤zOJ n k):0≤zOJ n k∧zOJ n k≤1048576:=⟨h1,zOM h⟩
theorem zOO {n:Int} {k:Nat} (h:0≤zOJ n k):(k:Int)≤n:=by unfold zOJ at h;split at h <;> omega
theorem zOP {n:Int} {k m:Nat} (h:zOJ n k < 0) (hk:k≤m):Value.int .i64 (-1)=Value.int .i64 (zOJ n m):=by
 have:zOJ n m=-1:=by unfold zOJ at *;split at h <;> split <;> omega
 rw [this]
theorem zOQ {n:Int} {k:Nat} (hn:0≤n∧n≤1048576) (hk:k≤9223372036854775807):IntKind.i64.wrap (n - k)=n - k:=zjz (by omega)
theorem zOR {n:Int} {k:Nat} (h:decide (n - (k:Int) < 0)=true):zOJ n k < 0:=by have:=of_decide_eq_true h;unfold zOJ;rw [if_pos this];omega
theorem zOS {n:Int} {k:Nat} (h:decide (n - (k:Int) < 0)=false):n - (k:Int)=zOJ n k∧0≤zOJ n k:=by have:=of_decide_eq_false h;unfold zOJ;rw [if_neg this];omega
theorem zOT {l:List Nat} {k:Nat} (hk:k < l.length):(l.take (k+1)).sum=(l.take k).sum+l[k]:=by rw [List.take_succ_eq_append_getElem hk,List.sum_append];simp
theorem zOU {l:List Nat} {k:Nat}:(l.take k).sum≤l.sum:=by
 conv=>rhs;rw [← List.take_append_drop k l,List.sum_append]
 exact Nat.le_add_right _ _
theorem zkv {h:Hp} {s:Sl Int} (H:s.Ok h) {i:Nat} (hi:i < s.l.length):h.lds (Option.map (·.add (i * 1)) s.a) 1=some [.int .i64 s.l[i]]:=H.at hi
structure DCall where
 ship:Int
 src:Int
 dst:Int
 ready:Int
 due:Int
deriving DecidableEq
def DCall.cells (c:DCall):List Value:=[.int .i64 c.ship,.int .i64 c.src,.int .i64 c.dst,.int .i64 c.ready,.int .i64 c.due]
instance:Enc DCall where
 size:=5
 enc p:=p.cells
 len _:=rfl
 one p u hu:=by
  simp only [DCall.cells,List.mem_cons,List.not_mem_nil,or_false] at hu
  rcases hu with rfl|rfl|rfl|rfl|rfl <;> rfl
 ok h p:=I64 p.ship∧I64 p.src∧I64 p.dst∧I64 p.ready∧I64 p.due
 mono hs H:=by
  have K:=H
  obtain ⟨h0,h1,h2,h3,h4⟩:=K
  exact ⟨h0,h1,h2,h3,h4⟩
@[go_sem] theorem zkw {c:DCall}:Enc.enc c=[.int .i64 c.ship,.int .i64 c.src,.int .i64 c.dst,.int .i64 c.ready,.int .i64 c.due]:=rfl
instance:Con DCall DCall:=⟨id⟩
instance:Blk DCall:=⟨fun _=>0⟩
abbrev DCall.v (c:DCall):Value:=.agg #[.int .i64 c.ship,.int .i64 c.src,.int .i64 c.dst,.int .i64 c.ready,.int .i64 c.due]
structure DPassage where
 ship:Int
 seg:Int
 toward:Bool
 start:Int
 fin:Int
deriving DecidableEq
def DPassage.cells (c:DPassage):List Value:=[.int .i64 c.ship,.int .i64 c.seg,.bool c.toward,.int .i64 c.start,.int .i64 c.fin]
instance:Enc DPassage where
 size:=5
 enc p:=p.cells
 len _:=rfl
 one p u hu:=by
  simp only [DPassage.cells,List.mem_cons,List.not_mem_nil,or_false] at hu
  rcases hu with rfl|rfl|rfl|rfl|rfl <;> rfl
 ok h p:=I64 p.ship∧I64 p.seg∧I64 p.start∧I64 p.fin
 mono hs H:=by
  have K:=H
  obtain ⟨h0,h1,h2,h3⟩:=K
  exact ⟨h0,h1,h2,h3⟩
@[go_sem] theorem zkx {c:DPassage}:Enc.enc c=[.int .i64 c.ship,.int .i64 c.seg,.bool c.toward,.int .i64 c.start,.int .i64 c.fin]:=rfl
instance:Con DPassage DPassage:=⟨id⟩
instance:Blk DPassage:=⟨fun _=>0⟩
abbrev DPassage.v (c:DPassage):Value:=.agg #[.int .i64 c.ship,.int .i64 c.seg,.bool c.toward,.int .i64 c.start,.int .i64 c.fin]
structure DOption where
 start:Int
 arr:Int
 cost:Int
 pas:Sl DPassage
def DOption.cells (c:DOption):List Value:=[.int .i64 c.start,.int .i64 c.arr,.int .i64 c.cost,c.pas.val]
instance:Enc DOption where
 size:=4
 enc p:=p.cells
 len _:=rfl
 one p u hu:=by
  simp only [DOption.cells,List.mem_cons,List.not_mem_nil,or_false] at hu
  rcases hu with rfl|rfl|rfl|rfl <;> rfl
 ok h p:=I64 p.start∧I64 p.arr∧I64 p.cost∧p.pas.Ok h
 mono hs H:=by
  have K:=H
  obtain ⟨h0,h1,h2,h3⟩:=K
  exact ⟨h0,h1,h2,h3.mono hs⟩
@[go_sem] theorem zkz {c:DOption}:Enc.enc c=[.int .i64 c.start,.int .i64 c.arr,.int .i64 c.cost,c.pas.val]:=rfl
structure z1B where
 start:Int
 arr:Int
 cost:Int
 pas:List DPassage
deriving DecidableEq
instance:Con DOption z1B:=⟨fun c=>⟨Con.con c.start,Con.con c.arr,Con.con c.cost,Con.con c.pas⟩⟩
instance:Blk DOption:=⟨fun c=>Blk.blk c.pas⟩
theorem zkB {c:DOption}:Blk.blk c=Blk.blk c.pas:=rfl
abbrev DOption.v (c:DOption):Value:=.agg #[.int .i64 c.start,.int .i64 c.arr,.int .i64 c.cost,c.pas.val]
structure DCrew where
 tugs:Int
 pilots:Int
 rest:Int
 moves:Sl Int
def DCrew.cells (c:DCrew):List Value:=[.int .i64 c.tugs,.int .i64 c.pilots,.int .i64 c.rest,c.moves.val]
instance:Enc DCrew where
 size:=4
 enc p:=p.cells
 len _:=rfl
 one p u hu:=by
  simp only [DCrew.cells,List.mem_cons,List.not_mem_nil,or_false] at hu
  rcases hu with rfl|rfl|rfl|rfl <;> rfl
 ok h p:=I64 p.tugs∧I64 p.pilots∧I64 p.rest∧p.moves.Ok h
 mono hs H:=by
  have K:=H
  obtain ⟨h0,h1,h2,h3⟩:=K
  exact ⟨h0,h1,h2,h3.mono hs⟩
@[go_sem] theorem zkD {c:DCrew}:Enc.enc c=[.int .i64 c.tugs,.int .i64 c.pilots,.int .i64 c.rest,c.moves.val]:=rfl
structure PCrew where
 tugs:Int
 pilots:Int
 rest:Int
 moves:List Int
deriving DecidableEq
instance:Con DCrew PCrew:=⟨fun c=>⟨Con.con c.tugs,Con.con c.pilots,Con.con c.rest,Con.con c.moves⟩⟩
theorem zkE {c:DCrew}:Con.con c=PCrew.mk (Con.con c.tugs) (Con.con c.pilots) (Con.con c.rest) (Con.con c.moves):=rfl
instance:Blk DCrew:=⟨fun c=>Blk.blk c.moves⟩
theorem zkF {c:DCrew}:Blk.blk c=Blk.blk c.moves:=rfl
abbrev DCrew.v (c:DCrew):Value:=.agg #[.int .i64 c.tugs,.int .i64 c.pilots,.int .i64 c.rest,c.moves.val]
structure DPart where
 amp:Int
 period:Int
 phase:Int
deriving DecidableEq
def DPart.cells (c:DPart):List Value:=[.int .i64 c.amp,.int .i64 c.period,.int .i64 c.phase]
instance:Enc DPart where
 size:=3
 enc p:=p.cells
 len _:=rfl
 one p u hu:=by
  simp only [DPart.cells,List.mem_cons,List.not_mem_nil,or_false] at hu
  rcases hu with rfl|rfl|rfl <;> rfl
 ok h p:=I64 p.amp∧I64 p.period∧I64 p.phase
 mono hs H:=by
  have K:=H
  obtain ⟨h0,h1,h2⟩:=K
  exact ⟨h0,h1,h2⟩
@[go_sem] theorem zkG {c:DPart}:Enc.enc c=[.int .i64 c.amp,.int .i64 c.period,.int .i64 c.phase]:=rfl
instance:Con DPart DPart:=⟨id⟩
instance:Blk DPart:=⟨fun _=>0⟩
theorem zkH {h:Hp} {s:Sl DPart} (H:s.Ok h) {i:Nat} (hi:i < s.l.length):h.lds (Option.map (·.add (i * 3)) s.a) 3=some [.int .i64 s.l[i].amp,.int .i64 s.l[i].period,.int .i64 s.l[i].phase]:=H.at hi
abbrev DPart.v (c:DPart):Value:=.agg #[.int .i64 c.amp,.int .i64 c.period,.int .i64 c.phase]
structure DTide where
 mean:Int
 parts:Sl DPart
def DTide.cells (c:DTide):List Value:=[.int .i64 c.mean,c.parts.val]
instance:Enc DTide where
 size:=2
 enc p:=p.cells
 len _:=rfl
 one p u hu:=by
  simp only [DTide.cells,List.mem_cons,List.not_mem_nil,or_false] at hu
  rcases hu with rfl|rfl <;> rfl
 ok h p:=I64 p.mean∧p.parts.Ok h
 mono hs H:=by
  have K:=H
  obtain ⟨h0,h1⟩:=K
  exact ⟨h0,h1.mono hs⟩
@[go_sem] theorem zkI {c:DTide}:Enc.enc c=[.int .i64 c.mean,c.parts.val]:=rfl
structure PTide where
 mean:Int
 parts:List DPart
deriving DecidableEq
instance:Con DTide PTide:=⟨fun c=>⟨Con.con c.mean,Con.con c.parts⟩⟩
theorem zkJ {c:DTide}:Con.con c=PTide.mk (Con.con c.mean) (Con.con c.parts):=rfl
instance:Blk DTide:=⟨fun c=>Blk.blk c.parts⟩
theorem zkK {c:DTide}:Blk.blk c=Blk.blk c.parts:=rfl
abbrev DTide.v (c:DTide):Value:=.agg #[.int .i64 c.mean,c.parts.val]
structure DSurge where
 src:Int
 low:Int
 high:Int
deriving DecidableEq
def DSurge.cells (c:DSurge):List Value:=[.int .i64 c.src,.int .i64 c.low,.int .i64 c.high]
instance:Enc DSurge where
 size:=3
 enc p:=p.cells
 len _:=rfl
 one p u hu:=by
  simp only [DSurge.cells,List.mem_cons,List.not_mem_nil,or_false] at hu
  rcases hu with rfl|rfl|rfl <;> rfl
 ok h p:=I64 p.src∧I64 p.low∧I64 p.high
 mono hs H:=by
  have K:=H
  obtain ⟨h0,h1,h2⟩:=K
  exact ⟨h0,h1,h2⟩
@[go_sem] theorem zkL {c:DSurge}:Enc.enc c=[.int .i64 c.src,.int .i64 c.low,.int .i64 c.high]:=rfl
instance:Con DSurge DSurge:=⟨id⟩
instance:Blk DSurge:=⟨fun _=>0⟩
theorem zkM {h:Hp} {s:Sl DSurge} (H:s.Ok h) {i:Nat} (hi:i < s.l.length):h.lds (Option.map (·.add (i * 3)) s.a) 3=some [.int .i64 s.l[i].src,.int .i64 s.l[i].low,.int .i64 s.l[i].high]:=H.at hi
abbrev DSurge.v (c:DSurge):Value:=.agg #[.int .i64 c.src,.int .i64 c.low,.int .i64 c.high]
structure DForecast where
 tide:DTide
 surges:Sl DSurge
def DForecast.cells (c:DForecast):List Value:=[.int .i64 c.tide.mean,c.tide.parts.val,c.surges.val]
instance:Enc DForecast where
 size:=3
 enc p:=p.cells
 len _:=rfl
 one p u hu:=by
  simp only [DForecast.cells,List.mem_cons,List.not_mem_nil,or_false] at hu
  rcases hu with rfl|rfl|rfl <;> rfl
 ok h p:=Enc.ok h p.tide∧p.surges.Ok h
 mono hs H:=by
  have K:=H
  obtain ⟨h0,h1⟩:=K
  exact ⟨Enc.mono hs h0,h1.mono hs⟩
@[go_sem] theorem zkN {c:DForecast}:Enc.enc c=[.int .i64 c.tide.mean,c.tide.parts.val,c.surges.val]:=rfl
structure PForecast where
 tide:PTide
 surges:List DSurge
deriving DecidableEq
instance:Con DForecast PForecast:=⟨fun c=>⟨Con.con c.tide,Con.con c.surges⟩⟩
theorem zkO {c:DForecast}:Con.con c=PForecast.mk (Con.con c.tide) (Con.con c.surges):=rfl
instance:Blk DForecast:=⟨fun c=>Blk.blk c.tide+Blk.blk c.surges⟩
theorem zkP {c:DForecast}:Blk.blk c=Blk.blk c.tide+Blk.blk c.surges:=rfl
abbrev DForecast.v (c:DForecast):Value:=.agg #[.int .i64 c.tide.mean,c.tide.parts.val,c.surges.val]
structure DPoint where
 name:ByteArray
 wait:Bool
deriving DecidableEq
def DPoint.cells (c:DPoint):List Value:=[.string c.name,.bool c.wait]
instance:Enc DPoint where
 size:=2
 enc p:=p.cells
 len _:=rfl
 one p u hu:=by
  simp only [DPoint.cells,List.mem_cons,List.not_mem_nil,or_false] at hu
  rcases hu with rfl|rfl <;> rfl
 ok h p:=zks p.name
 mono hs H:=by
  have K:=H
  have h0:=K
  exact h0
@[go_sem] theorem zkQ {c:DPoint}:Enc.enc c=[.string c.name,.bool c.wait]:=rfl
instance:Con DPoint DPoint:=⟨id⟩
instance:Blk DPoint:=⟨fun c=>Blk.blk c.name⟩
theorem zkR {c:DPoint}:Blk.blk c=Blk.blk c.name:=rfl
theorem zkS {h:Hp} {s:Sl DPoint} (H:s.Ok h) {i:Nat} (hi:i < s.l.length):h.lds (Option.map (·.add (i * 2)) s.a) 2=some [.string s.l[i].name,.bool s.l[i].wait]:=H.at hi
abbrev DPoint.v (c:DPoint):Value:=.agg #[.string c.name,.bool c.wait]
structure DSegment where
 a:Int
 b:Int
 depth:Int
 minutes:Int
 meet:Bool
deriving DecidableEq
def DSegment.cells (c:DSegment):List Value:=[.int .i64 c.a,.int .i64 c.b,.int .i64 c.depth,.int .i64 c.minutes,.bool c.meet]
instance:Enc DSegment where
 size:=5
 enc p:=p.cells
 len _:=rfl
 one p u hu:=by
  simp only [DSegment.cells,List.mem_cons,List.not_mem_nil,or_false] at hu
  rcases hu with rfl|rfl|rfl|rfl|rfl <;> rfl
 ok h p:=I64 p.a∧I64 p.b∧I64 p.depth∧I64 p.minutes
 mono hs H:=by
  have K:=H
  obtain ⟨h0,h1,h2,h3⟩:=K
  exact ⟨h0,h1,h2,h3⟩
@[go_sem] theorem zkT {c:DSegment}:Enc.enc c=[.int .i64 c.a,.int .i64 c.b,.int .i64 c.depth,.int .i64 c.minutes,.bool c.meet]:=rfl
instance:Con DSegment DSegment:=⟨id⟩
instance:Blk DSegment:=⟨fun _=>0⟩
theorem zkU {h:Hp} {s:Sl DSegment} (H:s.Ok h) {i:Nat} (hi:i < s.l.length):h.lds (Option.map (·.add (i * 5)) s.a) 5=some [.int .i64 s.l[i].a,.int .i64 s.l[i].b,.int .i64 s.l[i].depth,.int .i64 s.l[i].minutes,.bool s.l[i].meet]:=H.at hi
abbrev DSegment.v (c:DSegment):Value:=.agg #[.int .i64 c.a,.int .i64 c.b,.int .i64 c.depth,.int .i64 c.minutes,.bool c.meet]
structure DChart where
 points:Sl DPoint
 segments:Sl DSegment
def DChart.cells (c:DChart):List Value:=[c.points.val,c.segments.val]
instance:Enc DChart where
 size:=2
 enc p:=p.cells
 len _:=rfl
 one p u hu:=by
  simp only [DChart.cells,List.mem_cons,List.not_mem_nil,or_false] at hu
  rcases hu with rfl|rfl <;> rfl
 ok h p:=p.points.Ok h∧p.segments.Ok h
 mono hs H:=by
  have K:=H
  obtain ⟨h0,h1⟩:=K
  exact ⟨h0.mono hs,h1.mono hs⟩
@[go_sem] theorem zkV {c:DChart}:Enc.enc c=[c.points.val,c.segments.val]:=rfl
structure PChart where
 points:List DPoint
 segments:List DSegment
deriving DecidableEq
instance:Con DChart PChart:=⟨fun c=>⟨Con.con c.points,Con.con c.segments⟩⟩
theorem zkW {c:DChart}:Con.con c=PChart.mk (Con.con c.points) (Con.con c.segments):=rfl
instance:Blk DChart:=⟨fun c=>Blk.blk c.points+Blk.blk c.segments⟩
theorem zkX {c:DChart}:Blk.blk c=Blk.blk c.points+Blk.blk c.segments:=rfl
abbrev DChart.v (c:DChart):Value:=.agg #[c.points.val,c.segments.val]
structure DShip where
 name:ByteArray
 length:Int
 draught:Int
 line:Int
 tugs:Int
 slow:Bool
deriving DecidableEq
def DShip.cells (c:DShip):List Value:=[.string c.name,.int .i64 c.length,.int .i64 c.draught,.int .i64 c.line,.int .i64 c.tugs,.bool c.slow]
instance:Enc DShip where
 size:=6
 enc p:=p.cells
 len _:=rfl
 one p u hu:=by
  simp only [DShip.cells,List.mem_cons,List.not_mem_nil,or_false] at hu
  rcases hu with rfl|rfl|rfl|rfl|rfl|rfl <;> rfl
 ok h p:=zks p.name∧I64 p.length∧I64 p.draught∧I64 p.line∧I64 p.tugs
 mono hs H:=by
  have K:=H
  obtain ⟨h0,h1,h2,h3,h4⟩:=K
  exact ⟨h0,h1,h2,h3,h4⟩
@[go_sem] theorem zkY {c:DShip}:Enc.enc c=[.string c.name,.int .i64 c.length,.int .i64 c.draught,.int .i64 c.line,.int .i64 c.tugs,.bool c.slow]:=rfl
instance:Con DShip DShip:=⟨id⟩
instance:Blk DShip:=⟨fun c=>Blk.blk c.name⟩
theorem zkZ {c:DShip}:Blk.blk c=Blk.blk c.name:=rfl
theorem zk0 {h:Hp} {s:Sl DShip} (H:s.Ok h) {i:Nat} (hi:i < s.l.length):h.lds (Option.map (·.add (i * 6)) s.a) 6=some [.string s.l[i].name,.int .i64 s.l[i].length,.int .i64 s.l[i].draught,.int .i64 s.l[i].line,.int .i64 s.l[i].tugs,.bool s.l[i].slow]:=H.at hi
abbrev DShip.v (c:DShip):Value:=.agg #[.string c.name,.int .i64 c.length,.int .i64 c.draught,.int .i64 c.line,.int .i64 c.tugs,.bool c.slow]
structure DRegime where
 gap:Int
 noMeet:Bool
deriving DecidableEq
def DRegime.cells (c:DRegime):List Value:=[.int .i64 c.gap,.bool c.noMeet]
instance:Enc DRegime where
 size:=2
 enc p:=p.cells
 len _:=rfl
 one p u hu:=by
  simp only [DRegime.cells,List.mem_cons,List.not_mem_nil,or_false] at hu
  rcases hu with rfl|rfl <;> rfl
 ok h p:=I64 p.gap
 mono hs H:=by
  have K:=H
  have h0:=K
  exact h0
@[go_sem] theorem zk1 {c:DRegime}:Enc.enc c=[.int .i64 c.gap,.bool c.noMeet]:=rfl
instance:Con DRegime DRegime:=⟨id⟩
instance:Blk DRegime:=⟨fun _=>0⟩
abbrev DRegime.v (c:DRegime):Value:=.agg #[.int .i64 c.gap,.bool c.noMeet]
structure DHarbour where
 forecast:DForecast
 chart:DChart
 fleet:Sl DShip
 regime:DRegime
 crew:DCrew
def DHarbour.cells (c:DHarbour):List Value:=[.int .i64 c.forecast.tide.mean,c.forecast.tide.parts.val,c.forecast.surges.val,c.chart.points.val,c.chart.segments.val,c.fleet.val,.int .i64 c.regime.gap,.bool c.regime.noMeet,.int .i64 c.crew.tugs,.int .i64 c.crew.pilots,.int .i64 c.crew.rest,c.crew.moves.val]
instance:Enc DHarbour where
 size:=12
 enc p:=p.cells
 len _:=rfl
 one p u hu:=by
  simp only [DHarbour.cells,List.mem_cons,List.not_mem_nil,or_false] at hu
  rcases hu with rfl|rfl|rfl|rfl|rfl|rfl|rfl|rfl|rfl|rfl|rfl|rfl <;> rfl
 ok h p:=Enc.ok h p.forecast∧Enc.ok h p.chart∧p.fleet.Ok h∧Enc.ok h p.regime∧Enc.ok h p.crew
 mono hs H:=by
  have K:=H
  obtain ⟨h0,h1,h2,h3,h4⟩:=K
  exact ⟨Enc.mono hs h0,Enc.mono hs h1,h2.mono hs,Enc.mono hs h3,Enc.mono hs h4⟩
@[go_sem] theorem zk2 {c:DHarbour}:Enc.enc c=[.int .i64 c.forecast.tide.mean,c.forecast.tide.parts.val,c.forecast.surges.val,c.chart.points.val,c.chart.segments.val,c.fleet.val,.int .i64 c.regime.gap,.bool c.regime.noMeet,.int .i64 c.crew.tugs,.int .i64 c.crew.pilots,.int .i64 c.crew.rest,c.crew.moves.val]:=rfl
structure PHarbour where
 forecast:PForecast
 chart:PChart
 fleet:List DShip
 regime:DRegime
 crew:PCrew
deriving DecidableEq
instance:Con DHarbour PHarbour:=⟨fun c=>⟨Con.con c.forecast,Con.con c.chart,Con.con c.fleet,Con.con c.regime,Con.con c.crew⟩⟩
theorem zk3 {c:DHarbour}:Con.con c=PHarbour.mk (Con.con c.forecast) (Con.con c.chart) (Con.con c.fleet) (Con.con c.regime) (Con.con c.crew):=rfl
instance:Blk DHarbour:=⟨fun c=>Blk.blk c.forecast+Blk.blk c.chart+Blk.blk c.fleet+Blk.blk c.crew⟩
theorem zk4 {c:DHarbour}:Blk.blk c=Blk.blk c.forecast+Blk.blk c.chart+Blk.blk c.fleet+Blk.blk c.crew:=rfl
abbrev DHarbour.v (c:DHarbour):Value:=.agg #[.int .i64 c.forecast.tide.mean,c.forecast.tide.parts.val,c.forecast.surges.val,c.chart.points.val,c.chart.segments.val,c.fleet.val,.int .i64 c.regime.gap,.bool c.regime.noMeet,.int .i64 c.crew.tugs,.int .i64 c.crew.pilots,.int .i64 c.crew.rest,c.crew.moves.val]
structure DBranch where
 low:Int
 high:Int
 plan:Sl DOption
def DBranch.cells (c:DBranch):List Value:=[.int .i64 c.low,.int .i64 c.high,c.plan.val]
instance:Enc DBranch where
 size:=3
 enc p:=p.cells
 len _:=rfl
 one p u hu:=by
  simp only [DBranch.cells,List.mem_cons,List.not_mem_nil,or_false] at hu
  rcases hu with rfl|rfl|rfl <;> rfl
 ok h p:=I64 p.low∧I64 p.high∧p.plan.Ok h
 mono hs H:=by
  have K:=H
  obtain ⟨h0,h1,h2⟩:=K
  exact ⟨h0,h1,h2.mono hs⟩
@[go_sem] theorem zk5 {c:DBranch}:Enc.enc c=[.int .i64 c.low,.int .i64 c.high,c.plan.val]:=rfl
structure zk6 where
 low:Int
 high:Int
 plan:List z1B
deriving DecidableEq
instance:Con DBranch zk6:=⟨fun c=>⟨Con.con c.low,Con.con c.high,Con.con c.plan⟩⟩
instance:Blk DBranch:=⟨fun c=>Blk.blk c.plan⟩
theorem zk7 {c:DBranch}:Blk.blk c=Blk.blk c.plan:=rfl
abbrev DBranch.v (c:DBranch):Value:=.agg #[.int .i64 c.low,.int .i64 c.high,c.plan.val]
structure DStrategy where
 minute:Int
 branches:Sl DBranch
def DStrategy.cells (c:DStrategy):List Value:=[.int .i64 c.minute,c.branches.val]
instance:Enc DStrategy where
 size:=2
 enc p:=p.cells
 len _:=rfl
 one p u hu:=by
  simp only [DStrategy.cells,List.mem_cons,List.not_mem_nil,or_false] at hu
  rcases hu with rfl|rfl <;> rfl
 ok h p:=I64 p.minute∧p.branches.Ok h
 mono hs H:=by
  have K:=H
  obtain ⟨h0,h1⟩:=K
  exact ⟨h0,h1.mono hs⟩
@[go_sem] theorem zk8 {c:DStrategy}:Enc.enc c=[.int .i64 c.minute,c.branches.val]:=rfl
structure zk9 where
 minute:Int
 branches:List zk6
deriving DecidableEq
instance:Con DStrategy zk9:=⟨fun c=>⟨Con.con c.minute,Con.con c.branches⟩⟩
instance:Blk DStrategy:=⟨fun c=>Blk.blk c.branches⟩
theorem zla {c:DStrategy}:Blk.blk c=Blk.blk c.branches:=rfl
abbrev DStrategy.v (c:DStrategy):Value:=.agg #[.int .i64 c.minute,c.branches.val]
structure DWindow where
 src:Int
 dst:Int
deriving DecidableEq
def DWindow.cells (c:DWindow):List Value:=[.int .i64 c.src,.int .i64 c.dst]
instance:Enc DWindow where
 size:=2
 enc p:=p.cells
 len _:=rfl
 one p u hu:=by
  simp only [DWindow.cells,List.mem_cons,List.not_mem_nil,or_false] at hu
  rcases hu with rfl|rfl <;> rfl
 ok h p:=I64 p.src∧I64 p.dst
 mono hs H:=by
  have K:=H
  obtain ⟨h0,h1⟩:=K
  exact ⟨h0,h1⟩
@[go_sem] theorem zlb {c:DWindow}:Enc.enc c=[.int .i64 c.src,.int .i64 c.dst]:=rfl
instance:Con DWindow DWindow:=⟨id⟩
instance:Blk DWindow:=⟨fun _=>0⟩
abbrev DWindow.v (c:DWindow):Value:=.agg #[.int .i64 c.src,.int .i64 c.dst]
structure DDuty where
 src:Int
 dst:Int
 a:Int
 b:Int
deriving DecidableEq
def DDuty.cells (c:DDuty):List Value:=[.int .i64 c.src,.int .i64 c.dst,.int .i64 c.a,.int .i64 c.b]
instance:Enc DDuty where
 size:=4
 enc p:=p.cells
 len _:=rfl
 one p u hu:=by
  simp only [DDuty.cells,List.mem_cons,List.not_mem_nil,or_false] at hu
  rcases hu with rfl|rfl|rfl|rfl <;> rfl
 ok h p:=I64 p.src∧I64 p.dst∧I64 p.a∧I64 p.b
 mono hs H:=by
  have K:=H
  obtain ⟨h0,h1,h2,h3⟩:=K
  exact ⟨h0,h1,h2,h3⟩
@[go_sem] theorem zld {c:DDuty}:Enc.enc c=[.int .i64 c.src,.int .i64 c.dst,.int .i64 c.a,.int .i64 c.b]:=rfl
instance:Con DDuty DDuty:=⟨id⟩
instance:Blk DDuty:=⟨fun _=>0⟩
abbrev DDuty.v (c:DDuty):Value:=.agg #[.int .i64 c.src,.int .i64 c.dst,.int .i64 c.a,.int .i64 c.b]
open Go Go.RowKit Go.ChangeShapes Go.WideShapes Go.Deep Go.ChangeAt
section
variable {P:Program} {t e:TypeId}
theorem zOV {t':TypeId} (ht:P.underlying t'=some (.int .i64)) {H:Type} {enc:TypeId × Value→H} {w:World} {base:Nat} {spare:Nat→Bool} {held:Bool} {cs:List Value} {fs:Array Field}
  (h:∀ (i:Nat) (f:Field),fs[i]?=some f→∃ n y,DataW.trod enc P w base spare held n f.type ((cs.drop f.offset).take (P.cellsOf f.type))=some y) (i off:Nat) (hf:∃ f,fs[i]?=some f∧f.type=t'∧f.offset=off) (hc:P.cellsOf t'=1) :
  ∃ n:Int,(cs.drop off).take 1=[.int .i64 n]∧I64 n:=by
 obtain ⟨f,h1,rfl,rfl⟩:=hf
 obtain ⟨n,y,h⟩:=h i f h1
 rw [hc] at h
 obtain ⟨n,h2,_,wf⟩:=DataW.trod_int ht h
 refine ⟨n,h2,?_⟩
 simp [Lit.wf] at wf
 exact wf
theorem zOW {t':TypeId} (ht:P.underlying t'=some .bool) {H:Type} {enc:TypeId × Value→H} {w:World} {base:Nat} {spare:Nat→Bool} {held:Bool} {cs:List Value} {fs:Array Field}
  (h:∀ (i:Nat) (f:Field),fs[i]?=some f→∃ n y,DataW.trod enc P w base spare held n f.type ((cs.drop f.offset).take (P.cellsOf f.type))=some y) (i off:Nat) (hf:∃ f,fs[i]?=some f∧f.type=t'∧f.offset=off) (hc:P.cellsOf t'=1) :
  ∃ n:Bool,(cs.drop off).take 1=[.bool n]:=by
 obtain ⟨f,h1,rfl,rfl⟩:=hf
 obtain ⟨n,y,h⟩:=h i f h1
 rw [hc] at h
 obtain ⟨n,h2,_⟩:=DataW.trod_bool ht h
 exact ⟨n,h2⟩
theorem zOX {t':TypeId} (ht:P.underlying t'=some .string) {H:Type} {enc:TypeId × Value→H} {w:World} {base:Nat} {spare:Nat→Bool} {held:Bool} {cs:List Value} {fs:Array Field}
  (h:∀ (i:Nat) (f:Field),fs[i]?=some f→∃ n y,DataW.trod enc P w base spare held n f.type ((cs.drop f.offset).take (P.cellsOf f.type))=some y) (i off:Nat) (hf:∃ f,fs[i]?=some f∧f.type=t'∧f.offset=off) (hc:P.cellsOf t'=1) :
  ∃ n:ByteArray,(cs.drop off).take 1=[.string n]∧zks n:=by
 obtain ⟨f,h1,rfl,rfl⟩:=hf
 obtain ⟨n,y,h⟩:=h i f h1
 rw [hc] at h
 obtain ⟨n,h2,_,h3⟩:=DataW.trod_string ht h
 exact ⟨n,h2,h3⟩
end
section
variable {P:Program} {t e:TypeId} {H:Type} {enc:TypeId × Value→H} {W:World} {base base':Nat} {sp:Nat→Bool} {held:Bool} {v:Value} {d:DataW H} {p:List MemPlace}
theorem zOY {α:Type} [Enc α] {fs:Array Field} (ht:P.underlying t=some (.struct fs)) (Ho:Opens α P t) (hv:Value.okWide P W .any base t v) (h:DataW.Trod enc P W base' sp held t v d p):∃ c:α,v=.agg (Enc.enc c).toArray∧Enc.ok (vw W) c:=by
 obtain ⟨cs,rfl,_⟩:=okWide_struct ht hv
 obtain ⟨fuel,h⟩:=h
 obtain ⟨s,e0,ok⟩:=Ho H enc W _ _ _ _ _ _ h
 have e1:cs.toList=Enc.enc s:=e0
 exact ⟨s,by rw [← e1],ok⟩
theorem zOZ (ht:P.underlying t=some (.int .i64)) (hv:Value.okWide P W .any base t v) (h:DataW.Trod enc P W base' sp held t v d p):∃ n:Int,v=.int .i64 n∧I64 n:=by
 obtain ⟨n,rfl⟩:=okWide_int ht hv
 obtain ⟨fuel,h⟩:=h
 obtain ⟨n',h2,_,wf⟩:=DataW.trod_int ht h
 have h2:[Value.int .i64 n]=[.int .i64 n']:=h2
 injection h2 with h2
 injection h2 with _ h2
 subst h2
 refine ⟨n,rfl,?_⟩
 simp [Lit.wf] at wf
 exact wf
end
theorem zlg {H:Type} {enc:TypeId × Value→H} {P:Program} {W W':World} {sp:Nat→Bool} (hl:laidOutB P=true) (hb:Below W.heap.size W W'):∀ {ts:List TypeId} {vs:List Value} {ds:List (DataW H)} {ps:List MemPlace},
  (ts.all fun t=>P.readableRec t && decide (t < P.types.size))=true→(∀ x ∈ ps,x.block < W.heap.size)→(∀ p ∈ ps,sp p.block=true)→DataW.TrodAll enc P W 0 (fun _=>true) true ts vs ds ps→DataW.TrodAll enc P W' 0 sp true ts vs ds ps
 | [],vs,ds,ps,_,_,_,h=>by
  obtain ⟨rfl,rfl,rfl⟩:=trodAll_nil h
  exact trodAll_mk0
 | t :: ts,vs,ds,ps,ht,hp,hs,h=>by
  obtain ⟨v,vs',d,ds',p,q,rfl,rfl,rfl,h1,h2⟩:=trodAll_cons h
  simp only [List.all_cons,jJ,decide_eq_true_eq] at ht
  exact ⟨p,q,WideElems.Trod_stays hl ht.1.1 ht.1.2 h1 (fun x hx=>hb.same (hp x (List.mem_append_left _ hx))) (fun x hx=>hs x (List.mem_append_left _ hx)),
   zlg hl hb (by simpa using ht.2) (fun x hx=>hp x (List.mem_append_right _ hx)) (fun x hx=>hs x (List.mem_append_right _ hx)) h2,rfl⟩
open Go Go.RowKit
@[irreducible] def Cw (P:Program) (f:FuncId) (args:List Value) (h:Hp) (M:Nat→Prop) (R:Value→Hp→Prop):Prop :=
 (∀ A W,(callFunc f A).run P W=.ok (.enter f A) W) ∧
 ∀ W,Sees h W→Calls P f args.toArray W fun e W'=>∃ v h',e=.returned v∧R v h' ∧
  (W'.os=W.os∧W'.tape=W.tape∧W'.output=W.output∧W.heap.size≤W'.heap.size∧∀ k,k < W.heap.size→¬ M k→W'.heap[k]?=W.heap[k]?) ∧
  (∀ b o,h b=some o→¬ M b→h' b=some o)∧Sees h' W'∧∀ b o,h' b=some o→h b=none→W.heap.size≤b
theorem zlh {P:Program} {f:FuncId} {fn:Func} {c:Code} {args:List Value} {h:Hp} {M:Nat→Prop} {R:Value→Hp→Prop} {rs:List ResultVar} (hcall:∀ A W,(callFunc f A).run P W=.ok (.enter f A) W) (hf:P.funcs[f]?=some fn) (hb:fn.body=some c) (hrs:fn.results=rs.toArray)
  (hN:args.length≤fn.ntmps) (hM:∀ b,M b→h b ≠ none)
  (H:∀ W0:Base,(∀ b,M b→W0.own b)→T ⟨P,W0,h,fn.ntmps⟩ ⟨zdk 0 args,[],h,0⟩ c fun e st=>match e with
   | .normal=>zdg P st rs fun vs=>R (zdh vs) st.h
   | .ret=>zdg P st rs fun vs=>R (zdh vs) st.h
   | _=>False):Cw P f args h M R:=by
 unfold Cw
 refine ⟨hcall,fun W hs=>calls_of_wp hf hb ?_⟩
 have hin:∀ b o,h b=some o→b < W.heap.size:=fun b o hb=>(Array.getElem?_eq_some_iff.1 (hs b o hb)).1
 have H:=H ⟨W,fun g=>W.heap.size≤g∨M g,fun _ x=>.inl x⟩ (fun b hb=>.inr hb)
 unfold T at H
 refine Code.wp_mono ?_ (H _ W ⟨fun _=>undef,⟨rfl,by simp;omega,fun t cc sv hl=>?_⟩,⟨⟨rfl,rfl,rfl,Nat.le_refl _,fun _ _=>rfl⟩,hs,fun b o x _=>x,fun b o h1 h2=>?_,fun r b g hr=>(by cases hr),fun r b hr=>(by cases hr),fun r b g hr=>(by cases hr),fun r b r' b' g hr=>(by cases hr)⟩,?_⟩)
 ·rintro e a' W' ⟨st',hq,⟨ρ,hfo,hW,hw⟩⟩
  have fin:(zdg P st' rs fun vs=>R (zdh vs) st'.h)→a'.defers=[]∧∃ v,(results fn a'.tmps).run P W'=.ok v W'∧∃ v' h',Ending.returned v=.returned v'∧R v' h'∧(W'.os=W.os∧W'.tape=W.tape∧W'.output=W.output∧W.heap.size≤W'.heap.size∧∀ k,k < W.heap.size→¬ M k→W'.heap[k]?=W.heap[k]?)∧(∀ b o,h b=some o→¬ M b→h' b=some o)∧Sees h' W'∧∀ b o,h' b=some o→h b=none→W.heap.size≤b:=by
   intro hres
   obtain ⟨vs,hk,hrun⟩:=zdj (P:=P) (W0:=⟨W,fun g=>W.heap.size≤g∨M g,fun _ x=>.inl x⟩) (h0:=h) (N:=fn.ntmps) hw hres
   refine ⟨hfo.1,zdh vs,?_,_,_,rfl,hk,⟨hW.below.os,hW.below.tape,hW.below.output,hW.below.size,fun k hk hn=>hW.below.block k (fun x=>x.elim (Nat.not_le_of_lt hk) hn)⟩,fun b o hb hn=>hW.ext b o hb (fun x=>x.elim (Nat.not_le_of_lt (hin b o hb)) hn),hW.sees,fun b o h1 h2=>?_⟩
   ·have h1:(rs.toArray.toList.mapM (m:=Sem) fun
     | .tmp t=>pure (a'.tmps.getD t undef)
     | .cell ad t=>do loadVar t (← asAddr (a'.tmps.getD ad undef))).run P W'=.ok vs W':=hrun ρ a' W' hfo hW
    unfold results
    rw [hrs,Sem.run_bind,Array.mapM_eq_mapM_toList]
    have e:∀ m:Sem (List Value),(List.toArray <$> m)=m >>= fun l=>pure l.toArray:=fun _=>rfl
    rw [e,Sem.run_bind]
    refine Eq.trans (congrArg (fun (r:Result (List Value))=>(r.andThen fun a w'=>Sem.run P (pure a.toArray) w').andThen fun a w'=>Sem.run P (pure (if h:a.size=1 then a[0] else Value.tuple a)) w') h1) ?_
    simp only [Result.andThen_ok,Sem.run_pure]
    match vs with
    | []=>rfl
    | [v]=>rfl
    | _ :: _ :: _=>rfl
   ·rcases hW.new b o h1 h2 with hx|hx
    ·exact hx
    ·exact (hM b hx h2).elim
  cases e with
  | normal=>exact fin hq
  | ret=>exact fin hq
  | _=>exact hq.elim
 ·obtain ⟨j,v,h1,h2,rfl,rfl⟩:=zdl hl
  have hj:j < args.length:=(List.getElem?_eq_some_iff.1 h2).1
  rw [if_pos rfl,SV.conc_of,h1,Nat.zero_add]
  have:=(List.getElem?_eq_some_iff.1 h2).2
  simp [Array.getElem?_append,hj,this]
 ·exact absurd (h1.symm.trans h2) (by simp)
 ·simp [St.wf,zdm,pbLt]
theorem WOk.wrote {W0:Base} {h0:Hp} {ρ:Rho} {p:List (Nat × PB)} {h h':Hp} {W W':World} {M:Nat→Prop} (hW:WOk W0 h0 ρ p h W)
  (hb:W'.os=W.os∧W'.tape=W.tape∧W'.output=W.output∧W.heap.size≤W'.heap.size∧∀ k,k < W.heap.size→¬ M k→W'.heap[k]?=W.heap[k]?)
  (hM:∀ b,M b→h b ≠ none∧W0.own b) (hk:∀ b o,h b=some o→¬ M b→h' b=some o) (hs:Sees h' W') (hn:∀ b o,h' b=some o→h b=none→W.heap.size≤b):WOk W0 h0 ρ p h' W':=by
 have hpr:∀ r b g,look r p=some b→PB.at ρ r g→¬ M g:=fun r b g hr hat hm=>(hM g hm).1 (hW.apart r b g hr hat)
 refine ⟨hW.below.step hb.1 hb.2.1 hb.2.2.1 hb.2.2.2.1 fun k hk hlt=>hb.2.2.2.2 k hlt (fun hm=>hk (hM k hm).2),hs,fun b o h1 h2=>hk b o (hW.ext b o h1 h2) (fun hm=>h2 (hM b hm).2),fun b o hb' h0b=>?_,hW.own,fun r b hr=>?_,fun r b g hr hat=>?_,hW.distinct⟩
 ·cases hh:h b with
  | some o'=>exact hW.new b o' hh h0b
  | none=>exact W0.big b (Nat.le_trans hW.below.size (hn b o hb' hh))
 ·exact PB.ok_keep (hW.priv r b hr) fun g hg=>hb.2.2.2.2 g (PB.ok_lt (hW.priv r b hr) hg).2 (hpr r b g hr hg)
 ·cases hh:h' g with
  | none=>rfl
  | some o =>
   have h1:=hn g o hh (hW.apart r b g hr hat)
   have h2:=(PB.ok_lt (hW.priv r b hr) hat).2
   omega
@[irreducible] def vfnW (x:Cx) (st:St) (f:FuncId) (args:List Value) (K:Value→Hp→Prop):Prop :=
 ∃ M R,Cw x.P f args st.h M R∧(∀ b,M b→st.h b ≠ none∧(x.h0 b=none∨x.W0.own b))∧∀ v h',(∀ b o,st.h b=some o→¬ M b→h' b=some o)→(∀ b,h' b ≠ none→st.h b=none→x.W0.own b)→R v h'→K v h'
theorem zli {x:Cx} {st:St} {f:FuncId} {args:List Value} {K:Value→Hp→Prop} {M:Nat→Prop} {R:Value→Hp→Prop} {h:Hp} (H:Cw x.P f args h M R) (hh:st.h=h) (hM:∀ b,M b→h b ≠ none∧(x.h0 b=none∨x.W0.own b))
  (hk:∀ v h',(∀ b o,h b=some o→¬ M b→h' b=some o)→R v h'→K v h'):vfnW x st f args K:=by
 unfold vfnW;subst hh;exact ⟨M,R,H,hM,fun v h' k1 _ k2=>hk v h' k1 k2⟩
def zlj (x:Cx) (st:St) (vf:SV) (vs:List SV) (K:Value→Hp→Prop):Prop :=
 match vf with
 | .c (.v (.func (.func f) fs cs))=>(vs.all (·.plain))=true∧vfnW x st f (fs.toList ++ (vs.map (·.pv) ++ cs.toList)) K
 | _=>False
def zlk (x:Cx) (st:St) (t:TypeId) (a y:SV) (K:Hp→Prop):Prop :=
 hasT x.P t=true∧y.plain=true∧(y.cells.all fun c=>c.val.oneCell')=true∧y.cells.length=szT x.P t∧∃ b off cur e,a=.c (.v (.pointer (some ⟨b,off,none⟩)))∧st.h b=some (.cells cur e (0,0))∧(x.h0 b=none∨x.W0.own b)∧off+szT x.P t≤cur.size ∧
  K (st.h.ins b (.cells (zbG off (y.cells.map (·.val)) cur.toList).toArray e (0,0)))
def vopX (x:Cx) (st:St) (o:Oper) (K:St→Prop):Prop :=
 o.guard=none∧match o.op with
 | .call c=>(match c.callee with
  | .value f=>getO st true f fun vf=>zaC st true c.args.toList fun vs=>zlj x st vf vs fun v h'=>K (St.mk (zb5 st.e o.dst true (.of v)) st.p h' st.nx)
  | _=>False)
 | .buildSlice t n ps=>zcl x.P st o t n ps K
 | .store t a y=>o.dst=none∧getO st true a fun va=>getO st true y fun vy=>zlk x st t va vy fun h'=>K (St.mk st.e st.p h' st.nx)
 | .makeFunc fn fs cs=>zaC st true fs.toList fun us=>zaC st true cs.toList fun vs=>(us.all (·.plain))=true∧(vs.all (·.plain))=true∧K (St.mk (zb5 st.e o.dst true (.c (.v (.func fn (us.map (·.pv)).toArray (vs.map (·.pv)).toArray)))) st.p st.h st.nx)
 | _=>False
def vpub (st:St) (d:Option Nat) (K:St→Prop):Prop :=
 onD d fun t=>match look t st.e with
  | some (true,.c (.s r))=>(match look r st.p with
   | some (.row e sz n xs)=>∀ ad cap h',Pub st.h e sz n xs ad cap h'→K (st.sub r (.slice ad n cap) h')
   | _=>False)
  | _=>False
def zll (x:Cx) (ops:List Oper) (K:St→Prop):List Nat→List Oper→St→Prop
 | [],l,st=>vops x.P ops l st K
 | 0 :: bs,o :: l,st=>vop x.P ops st o fun st'=>zll x ops K bs l st'
 | 1 :: bs,o :: l,st=>vopX x st o fun st'=>zll x ops K bs l st'
 | _ :: bs,o :: l,st=>vop x.P ops st o fun st'=>vpub st' o.dst fun st'=>zll x ops K bs l st'
 | _ :: _,[],_=>False
section
variable {x:Cx} {st:St} {Q:Exit→St→Prop}
theorem zlm {vf:SV} {vs:List SV} {K:Value→Hp→Prop} (h:zlj x st vf vs K):∃ fn fs cs,vf=.c (.v (.func (.func fn) fs cs)):=by
 unfold zlj at h
 split at h
 ·exact ⟨_,_,_,rfl⟩
 ·exact h.elim
theorem Conc.own_new {W0:Base} {h0:Hp} {ρ:Rho} {p:List (Nat × PB)} {h:Hp} {W:World} (hW:WOk W0 h0 ρ p h W) {b:Nat} (h1:h b ≠ none) (h2:h0 b=none∨W0.own b):W0.own b:=by
 rcases h2 with h2|h2
 ·cases hh:h b with
  | none=>exact (h1 hh).elim
  | some o=>exact hW.new b o hh h2
 ·exact h2
theorem zln {o:Oper} {K:St→Prop} {QQ:Exit→Act→World→Prop} {a:Act} {W:World} (hd:∀ d',o.dst=some d'→d' < x.N) (h:vopX x st o K) (hC:Conc x.W0 x.h0 x.N st a W) :
  (∀ tm,Region.wanted o tm=true)∧o.wp x.P a W (fun a' W'=>∃ st',K st'∧Conc x.W0 x.h0 x.N st' a' W') QQ:=by
 obtain ⟨ρ,hf,hW,hw⟩:=hC
 obtain ⟨hg,h⟩:=h
 refine ⟨fun tm=>by simp [Region.wanted,hg],?_⟩
 split at h
 ·rename_i c ho
  split at h
  ·rename_i f hc
   obtain ⟨vf,h,_,hvf⟩:=zaB (N:=x.N) hw h
   obtain ⟨vs,h,_,_,hvs⟩:=zaD (N:=x.N) hw h
   obtain ⟨fn,fs,cs,rfl⟩:=zlm h
   obtain ⟨hp,h⟩:=h
   unfold vfnW at h
   obtain ⟨M,R,hfn,hM,hk⟩:=h
   unfold Cw at hfn
   obtain ⟨hcall,hcalls⟩:=hfn
   replace hvf:=hvf rfl ρ a hf
   replace hvs:=hvs rfl ρ a hf
   rw [SV.mapconc hp] at hvs
   have hrun:(execOp a.eval o).run x.P W=.ok (.enter fn (fs.toList ++ (vs.map (·.pv) ++ cs.toList)).toArray) W:=by
    obtain ⟨callee,args,ats⟩:=c
    simp only at hc hvs
    subst hc
    have e1:args.map a.eval=(vs.map (·.pv)).toArray:=Array.toList_inj.1 (by rw [Array.toList_map,hvs])
    simp only [execOp,ho]
    simp only [resolve,hvf,zak,zah,e1,Sem.run_bind,Deferred.ofValue,Sem.run_pure,Result.andThen_ok,invoke]
    rw [hcall]
    congr 3
    apply Array.toList_inj.1
    simp
   unfold Oper.wp
   rw [hrun]
   simp only [Oper.upon]
   refine (hcalls W hW.sees).mono ?_
   rintro e W' ⟨v,h',rfl,hR,hb,hkeep,hs,hn⟩
   exact ⟨_,hk v h' hkeep (fun b h1 h2=>by
    cases hh:h' b with
    | none=>exact (h1 hh).elim
    | some o=>exact x.W0.big b (Nat.le_trans hW.below.size (hn b o hh h2))) hR,Conc.put_ (c:=true) hf (hW.wrote hb (fun b hb=>⟨(hM b hb).1,Conc.own_new hW (hM b hb).1 (hM b hb).2⟩) hkeep hs hn) (wf_p hw) (wf_e hw) hd (SV.of_lt _ _) (by simp [SV.conc_of])⟩
  ·exact h.elim
 ·rename_i t n ps ho
  obtain ⟨v,W',hr,hk⟩:=zcM ho hw hd hf hW h
  unfold Oper.wp
  rw [hr]
  exact hk
 ·rename_i t ea ey ho
  obtain ⟨hn,h⟩:=h
  obtain ⟨va,h,_,hx⟩:=zaB (N:=x.N) hw h
  obtain ⟨vy,h,hly,hy⟩:=zaB (N:=x.N) hw h
  obtain ⟨ht,hpl,hone,hlen,b,off,cur,e,rfl,hb,hown,hle,hk⟩:=h
  replace hx:=hx rfl ρ a hf
  replace hy:=hy rfl ρ a hf
  have hbo:x.W0.own b:=Conc.own_new hW (by rw [hb];simp) hown
  have hvals:vy.cells.map (·.conc ρ)=vy.cells.map (·.val):=SV.plain_cells hpl ρ
  have hcell:(vy.conc ρ).cells=(vy.cells.map (·.val)).toArray:=by
   rw [← hvals]
   rcases SV.cells_conc ρ vy with h|⟨r,rfl⟩
   ·exact h
   ·exact absurd hpl (by simp [SV.plain,zb7])
  have hr:=zcD (P:=x.P) (t:=t) (o:=off) (vs:=vy.cells.map (·.val)) ht hcell (by simpa using hlen) (hW.sees _ _ hb) (by simp [hlen];omega) (fun u hu=>by
   obtain ⟨c,hc,rfl⟩:=List.mem_map.1 hu
   exact List.all_eq_true.1 hone c hc)
  have hrun:(execOp a.eval o).run x.P W=.ok .skip (W.setRow b (zbG off (vy.cells.map (·.val)) cur.toList).toArray):=by
   simp only [execOp,ho,hx,hy,zak,zah]
   simp [Sem.run_bind,hr]
  unfold Oper.wp
  rw [hrun]
  have hother:∀ k,k ≠ b→(W.setRow b (zbG off (vy.cells.map (·.val)) cur.toList).toArray).heap[k]?=W.heap[k]?:=fun k hk=>setRow_other W b k _ hk
  refine ⟨_,hk,ρ,by simpa [Act.put,hn] using hf,hW.wrote (M:=fun k=>k=b) ⟨rfl,rfl,rfl,by simp [World.setRow],fun k _ hk=>hother k hk⟩ (fun k hk=>by subst hk;exact ⟨by rw [hb];simp,hbo⟩) (fun k o hk hne=>by simp only [Hp.ins,if_neg hne];exact hk) (fun k o hko=>?_) (fun k o h1 h2=>?_),hw⟩
  ·simp only [Hp.ins] at hko
   split at hko
   ·rename_i e';subst e';injection hko with hko;subst hko;exact setRow_heap W _ _ _ _ _ (hW.sees _ _ hb)
   ·rename_i hne;rw [hother k hne];exact hW.sees k o hko
  ·simp only [Hp.ins] at h1
   split at h1
   ·rename_i e';subst e';rw [hb] at h2;cases h2
   ·rw [h2] at h1;cases h1
 ·rename_i fn fs cs ho
  obtain ⟨us,h,_,_,hus⟩:=zaD (N:=x.N) hw h
  obtain ⟨vs,h,_,_,hvs⟩:=zaD (N:=x.N) hw h
  obtain ⟨hp1,hp2,hk⟩:=h
  replace hus:=hus rfl ρ a hf
  replace hvs:=hvs rfl ρ a hf
  rw [SV.mapconc hp1] at hus
  rw [SV.mapconc hp2] at hvs
  have e1:fs.map a.eval=(us.map (·.pv)).toArray:=Array.toList_inj.1 (by rw [Array.toList_map,hus])
  have e2:cs.map a.eval=(vs.map (·.pv)).toArray:=Array.toList_inj.1 (by rw [Array.toList_map,hvs])
  have hrun:(execOp a.eval o).run x.P W=.ok (.value (.func fn (us.map (·.pv)).toArray (vs.map (·.pv)).toArray)) W:=by
   simp only [execOp,ho,e1,e2]
   simp [Sem.run_bind,Instr.makeFunc]
  unfold Oper.wp
  rw [hrun]
  exact ⟨_,hk,Conc.put_ (c:=true) hf hW (wf_p hw) (wf_e hw) hd rfl (by simp)⟩
 ·exact h.elim
theorem zlo {d:Option Nat} {K:St→Prop} {a:Act} {W:World} (h:vpub st d K) (hC:Conc x.W0 x.h0 x.N st a W):∃ st',K st'∧Conc x.W0 x.h0 x.N st' a W:=by
 unfold vpub onD at h
 split at h
 ·split at h
  ·split at h
   ·rename_i hr
    obtain ⟨ad,cap,h',hp,hC'⟩:=hC.pub hr
    exact ⟨_,h ad cap h' hp,hC'⟩
   ·exact h.elim
  ·exact h.elim
 ·exact h.elim
theorem zlp {ops:List Oper} {K:St→Prop} {QQ:Exit→Act→World→Prop} (hQ:∀ st' a' W',K st'→Conc x.W0 x.h0 x.N st' a' W'→QQ .normal a' W'):∀ {bs:List Nat} {l:List Oper} {st:St} {a:Act} {W:World},zcZ x.N l=true→zll x ops K bs l st→Conc x.W0 x.h0 x.N st a W →
  wpList x.P ops.toArray QQ l a W
 | [],l,st,a,W,hd,h,hC=>by
  have h:vops x.P ops l st K:=by cases l <;> exact h
  exact zc0 hd hQ h hC
 | b :: bs,[],st,a,W,hd,h,hC=>by
  match b,h with
  | 0,h=>exact h.elim
  | 1,h=>exact h.elim
  | b+2,h=>exact h.elim
 | b :: bs,o :: l,st,a,W,hd,h,hC=>by
  simp only [zcZ,jJ] at hd
  have hd1:∀ d',o.dst=some d'→d' < x.N:=by
   intro d' e
   have:=hd.1
   rw [e] at this
   simpa using this
  have gen:∀ {K':St→Prop},vop x.P ops st o K'→(∀ st' a' W',K' st'→Conc x.W0 x.h0 x.N st' a' W'→∃ st'',zll x ops K bs l st''∧Conc x.W0 x.h0 x.N st'' a' W')→wpList x.P ops.toArray QQ (o :: l) a W:=by
   intro K' h hn
   have:=zcY (Q:=QQ) hd1 h hC
   simp only [wpList]
   rcases this with ⟨hw,hwp⟩|⟨hw,st',hk,hC'⟩
   ·rw [if_pos hw]
    left
    refine Oper.wp_mono ?_ hwp
    rintro a' W' ⟨st',hk,hC'⟩
    obtain ⟨st'',hk,hC''⟩:=hn st' a' W' hk hC'
    exact zlp hQ hd.2 hk hC''
   ·rw [if_neg (by simp [hw])]
    obtain ⟨st'',hk,hC''⟩:=hn st' _ W hk hC'
    exact zlp hQ hd.2 hk hC''
  match b,h with
  | 0,h=>exact gen h fun st' a' W' hk hC'=>⟨st',hk,hC'⟩
  | 1,h =>
   obtain ⟨hw,hwp⟩:=zln (QQ:=QQ) hd1 h hC
   simp only [wpList]
   rw [if_pos (hw _)]
   left
   refine Oper.wp_mono ?_ hwp
   rintro a' W' ⟨st',hk,hC'⟩
   exact zlp hQ hd.2 hk hC'
  | b+2,h=>exact gen h fun st' a' W' hk hC'=>zlo hk hC'
theorem zlq {id:Nat} {ops:List Oper} (n:List Nat) (hd:zcZ x.N ops=true) (h:zll x ops (fun st'=>Q .normal st') n ops st):T x st (.region id ops.toArray false) Q:=by
 unfold T
 intro a W hC
 exact wp_region_lit (zlp (fun st' a' W' hk hC'=>⟨st',hk,hC'⟩) hd h hC)
theorem zlr {id:Nat} {ops:List Oper} {d:Code} (n:List Nat) (hd:zcZ x.N ops=true) (h:zll x ops (fun st'=>T x st' d Q) n ops st):T x st (.seq (.region id ops.toArray false) d) Q :=
 zc3 (zlq n hd h)
def St.leF (h0:Hp) (st st':St):Prop:=leE st.e st'.e∧leP st.p st'.p∧st'.h.le st.h∧h0.le st'.h∧st'.wf=true
end
attribute [irreducible] zlk
section
variable {x:Cx} {st:St} {o:Oper} {l ops:List Oper} {bs:List Nat} {K:St→Prop} {KV:Value→Hp→Prop} {KH:Hp→Prop}
@[go_sem] theorem zls:zll x ops K [] l st=vops x.P ops l st K:=by cases l <;> rfl
@[go_sem] theorem zlt:zll x ops K (1 :: bs) (o :: l) st=vopX x st o fun st'=>zll x ops K bs l st':=rfl
@[go_sem] theorem zlu:zll x ops K (0 :: bs) (o :: l) st=vop x.P ops st o fun st'=>zll x ops K bs l st':=rfl
@[go_sem] theorem zlv:zll x ops K (2 :: bs) (o :: l) st=vop x.P ops st o fun st'=>vpub st' o.dst fun st'=>zll x ops K bs l st':=rfl
@[go_sem] theorem zlw {d:Option Nat}:vpub st d K=onD d fun t=>match look t st.e with
  | some (true,.c (.s r))=>(match look r st.p with
   | some (.row e sz n xs)=>∀ ad cap h',Pub st.h e sz n xs ad cap h'→K (st.sub r (.slice ad n cap) h')
   | _=>False)
  | _=>False:=rfl
@[go_sem] theorem zlx {d:Option Nat} {f:Operand} {args:Array Operand} {ats:Array TypeId} {t:TypeId} {p:String} {af:Array Edge}:vopX x st ⟨d,.call ⟨.value f,args,ats⟩,t,p,af,none⟩ K=getO st true f fun vf=>zaC st true args.toList fun vs=>zlj x st vf vs fun v h'=>K (St.mk (zb5 st.e d true (.of v)) st.p h' st.nx):=by
 unfold vopX;simp
@[go_sem] theorem zly {a y:Operand} {tt t:TypeId} {p:String} {af:Array Edge}:vopX x st ⟨none,.store tt a y,t,p,af,none⟩ K=getO st true a fun va=>getO st true y fun vy=>zlk x st tt va vy fun h'=>K (St.mk st.e st.p h' st.nx):=by
 unfold vopX;simp
@[go_sem] theorem zlz {d:Option Nat} {fn:Fn} {fs cs:Array Operand} {t:TypeId} {p:String} {af:Array Edge}:vopX x st ⟨d,.makeFunc fn fs cs,t,p,af,none⟩ K=zaC st true fs.toList fun us=>zaC st true cs.toList fun vs=>(us.all (·.plain))=true∧(vs.all (·.plain))=true∧K (St.mk (zb5 st.e d true (.c (.v (.func fn (us.map (·.pv)).toArray (vs.map (·.pv)).toArray)))) st.p st.h st.nx):=by
 unfold vopX;simp
@[go_sem] theorem zlA {d:Option Nat} {tt t:TypeId} {n:Nat} {ps:List (Nat × Operand)} {p:String} {af:Array Edge}:vopX x st ⟨d,.buildSlice tt n ps.toArray,t,p,af,none⟩ K=zaC st true (ps.map (·.2)) fun vs=>zcc x.P tt fun e=>0 < szT x.P e∧zca x.P e fun z=>z.length=szT x.P e∧n * szT x.P e≤16777216∧ps.length=n∧zcb (szT x.P e) 0 (ps.map (·.1)) vs ∧
   ∀ b,st.h b=none→K (St.mk (zb5 st.e d true (.c (.v (.slice (some ⟨b,0,none⟩) n n)))) st.p (st.h.ins b (.cells (vs.flatMap fun x=>x.cells.map (·.val)).toArray e (0,0))) st.nx):=by
 unfold vopX;simp [zcl]
@[go_sem] theorem zlB {f:FuncId} {fs cs:Array Value} {vs:List SV}:zlj x st (.c (.v (.func (.func f) fs cs))) vs KV=((vs.all (·.plain))=true∧vfnW x st f (fs.toList ++ (vs.map (·.pv) ++ cs.toList)) KV):=rfl
def spl (o:Nat) (new cs:List Value):List Value:=zbG o new cs
theorem zlC {t:TypeId} {b off:Nat} {u:Value} {cur:Array Value} {e:TypeId} (ht:hasT x.P t=true) (hs:szT x.P t=1) (hu:SV.cells (.c (.v u))=[.v u]) (h1:u.oneCell'=true) (hb:st.h b=some (.cells cur e (0,0))) (hown:x.h0 b=none∨x.W0.own b) (hle:off+1≤cur.size)
  (hk:KH (st.h.ins b (.cells (spl off [u] cur.toList).toArray e (0,0)))):zlk x st t (.c (.v (.pointer (some ⟨b,off,none⟩)))) (.c (.v u)) KH:=by
 unfold zlk
 refine ⟨ht,rfl,by simp [hu,SC.val,h1],by simp [hu,hs],b,off,cur,e,rfl,hb,hown,by omega,?_⟩
 unfold spl at hk
 simpa [hu,SC.val] using hk
theorem Hp.ins_same {h:Hp} {b:Nat} {o:Obj}:h.ins b o b=some o:=by simp [Hp.ins]
theorem Hp.ins_ins {h:Hp} {b:Nat} {o o':Obj}:(h.ins b o).ins b o'=h.ins b o':=by
 funext i;simp only [Hp.ins];split <;> rfl
theorem Hp.ins_ne {h:Hp} {b i:Nat} {o:Obj} (hi:i ≠ b):h.ins b o i=h i:=by simp [Hp.ins,hi]
end
open Go Go.RowKit
theorem zlD {h h':Hp} {a:Addr} {n:Nat} {l:List Value} (hk:∀ o,h a.block=some o→h' a.block=some o) (e:h.lds (some a) n=some l):h'.lds (some a) n=some l:=by
 obtain ⟨h1,h2⟩:=zac e
 refine zad h1 fun j v hj=>?_
 have:=h2 j v hj
 unfold Hp.cell at this ⊢
 have hb:(a.add (0+j)).block=a.block:=by unfold Addr.add;split <;> rfl
 rw [hb] at this ⊢
 split at this
 ·rename_i c _ _ hh
  rw [hk _ hh]
  exact this
 ·cases this
class Foot (α:Type) [Enc α] where
 foot:α→List Nat
 own:Hp→α→Prop
 loc:∀ {h h':Hp} {x:α},Enc.ok h x→own h x→(∀ b ∈ foot x,∀ o,h b=some o→h' b=some o)→Enc.ok h' x∧own h' x
 dom:∀ {h:Hp} {x:α},own h x→∀ b ∈ foot x,h b ≠ none
def Sl.blkOf {α:Type} (s:Sl α):Nat:=match s.a with|some a=>a.block|none=>0
def Sl.own {α:Type} [Enc α] [Foot α] (h:Hp) (s:Sl α):Prop :=
 s.l ≠ []→(∃ g cur e,s.a=some ⟨g,0,none⟩∧h g=some (.cells cur e (0,0))∧cur.size=s.cap * Enc.size α)∧∀ x ∈ s.l,Foot.own h x
def Sl.foot {α:Type} [Enc α] [Foot α] (s:Sl α):List Nat:=match s.l with|[]=>[]|_ :: _=>s.blkOf :: s.l.flatMap Foot.foot
theorem Sl.foot_ne {α:Type} [Enc α] [Foot α] {s:Sl α} (h:s.l ≠ []):s.foot=s.blkOf :: s.l.flatMap Foot.foot:=by
 unfold Sl.foot
 split
 ·rename_i e;exact (h e).elim
 ·rfl
theorem Sl.foot_nil {α:Type} [Enc α] [Foot α] {s:Sl α} (h:s.l=[]):s.foot=[]:=by
 unfold Sl.foot;rw [h]
instance {α:Type} [Enc α] [Foot α]:Foot (Sl α) where
 foot:=Sl.foot
 own:=Sl.own
 loc {h h' s} hok hown hk:=by
  have hok:s.Ok h:=hok
  by_cases hl:s.l=[]
  ·exact ⟨(show Sl.Ok h' s from ⟨hok.1,hok.2.1,fun i x hx=>(by rw [hl] at hx;simp at hx),fun x hx=>(by rw [hl] at hx;cases hx),hok.2.2.2.2⟩),fun hne=>(hne hl).elim⟩
  ·obtain ⟨⟨g,cur,e,ha,hb,hsz⟩,hx⟩:=hown hl
   have hfoot:Sl.foot s=s.blkOf :: s.l.flatMap Foot.foot:=Sl.foot_ne hl
   have hbo:s.blkOf=g:=by unfold Sl.blkOf;rw [ha]
   have hg:∀ o,h g=some o→h' g=some o:=hk g (by show g ∈ Sl.foot s;rw [hfoot,hbo];exact List.mem_cons_self ..)
   have hel:∀ x ∈ s.l,Enc.ok h' x∧Foot.own h' x:=fun x hm=>Foot.loc (hok.2.2.2.1 x hm) (hx x hm) fun b hb=>hk b (by
    show b ∈ Sl.foot s
    rw [hfoot];exact List.mem_cons_of_mem _ (List.mem_flatMap.2 ⟨x,hm,hb⟩))
   refine ⟨(show Sl.Ok h' s from ⟨hok.1,hok.2.1,fun i x hi=>?_,fun x hm=>(hel x hm).1,hok.2.2.2.2⟩),fun _=>⟨⟨g,cur,e,ha,hg _ hb,hsz⟩,fun x hm=>(hel x hm).2⟩⟩
   have:=hok.2.2.1 i x hi
   rw [ha] at this ⊢
   refine zlD (fun o ho=>?_) this
   have hb:((⟨g,0,none⟩:Addr).add (i * Enc.size α)).block=g:=by unfold Addr.add;split <;> rfl
   rw [hb] at ho ⊢
   exact hg o ho
 dom {h s} hown b hb:=by
  by_cases hl:s.l=[]
  ·rw [Sl.foot_nil hl] at hb;cases hb
  ·obtain ⟨⟨g,cur,e,ha,hbk,hsz⟩,hx⟩:=hown hl
   rw [Sl.foot_ne hl] at hb
   rcases List.mem_cons.1 hb with rfl|hb
   ·have hbo:s.blkOf=g:=by unfold Sl.blkOf;rw [ha]
    rw [hbo,hbk];simp
   ·obtain ⟨x,hm,hb⟩:=List.mem_flatMap.1 hb
    exact Foot.dom (hx x hm) b hb
instance:Foot Int:=⟨fun _=>[],fun _ _=>True,fun H _ _=>⟨H,trivial⟩,fun _ b hb=>by cases hb⟩
def Mine {α:Type} [Enc α] [Foot α] (h h':Hp) (x:α):Prop:=Foot.own h' x∧(∀ b ∈ Foot.foot x,h b=none)∧(Foot.foot x).Nodup
theorem Mine.on {α:Type} [Enc α] [Foot α] {h h' h2:Hp} {x:α} (hle:h'.le h2) (hok:Enc.ok h' x) (H:Mine h h' x):Mine h h2 x :=
 ⟨(Foot.loc hok H.1 fun b _ o ho=>hle b o ho).2,H.2.1,H.2.2⟩
theorem Mine.flat {α:Type} [Enc α] [Foot α] {h h':Hp} {x:α} (hf:Foot.foot x=[]) (ho:Foot.own h' x):Mine h h' x:=⟨ho,fun b hb=>(by rw [hf] at hb;cases hb),by rw [hf];exact List.nodup_nil⟩
theorem Mine.nil {α:Type} [Enc α] [Foot α] {h h':Hp} {a:Option Addr} {c:Nat}:Mine h h' (⟨a,c,[]⟩:Sl α):=Mine.flat rfl fun h=>(h rfl).elim
def Mines {α:Type} [Enc α] [Foot α] (h h':Hp) (l:List α):Prop:=(∀ x ∈ l,Foot.own h' x)∧(∀ b ∈ l.flatMap Foot.foot,h b=none)∧(l.flatMap Foot.foot).Nodup
theorem Mines.nil {α:Type} [Enc α] [Foot α] {h h':Hp}:Mines h h' ([]:List α):=⟨fun x hx=>(by cases hx),fun b hb=>(by cases hb),List.nodup_nil⟩
theorem Mines.flat {α:Type} [Enc α] [Foot α] {h h':Hp} {l:List α} (hf:∀ x:α,Foot.foot x=[]) (ho:∀ x:α,Foot.own h' x):Mines h h' l:=by
 have:l.flatMap (Foot.foot (α:=α))=[]:=by
  rw [List.flatMap_eq_nil_iff];exact fun x _=>hf x
 exact ⟨fun x _=>ho x,fun b hb=>(by rw [this] at hb;cases hb),by rw [this];exact List.nodup_nil⟩
theorem Pub.mine {α:Type} [Enc α] [Foot α] {hb h h':Hp} {e:TypeId} {l:List α} {ad:Option Addr} {cap:Nat} (H:Pub h e (Enc.size α) l.length (l.flatMap Enc.enc) ad cap h') (hle:hb.le h) (hok:∀ x ∈ l,Enc.ok h x) (hm:Mines hb h l):Mine hb h' (Sl.mk ad cap l):=by
 have hl':=H.le
 by_cases hl:l=[]
 ·subst hl;exact Mine.nil
 ·have hlen:l.length ≠ 0:=fun e=>hl (List.length_eq_zero_iff.1 e)
  rcases H.2.2.2 with ⟨_,hn,_⟩|⟨g,cur,rfl,hg,rfl,hsz,_⟩
  ·exact (hlen hn).elim
  ·have hfoot:Foot.foot (Sl.mk (some ⟨g,0,none⟩) cap l)=g :: l.flatMap Foot.foot:=Sl.foot_ne (s:=Sl.mk (some ⟨g,0,none⟩) cap l) hl
   refine ⟨fun _=>⟨⟨g,cur,e,rfl,by simp [Hp.ins],hsz⟩,fun x hx=>(Foot.loc (hok x hx) (hm.1 x hx) fun b _ o ho=>hl' b o ho).2⟩,fun b hb'=>?_,?_⟩
   ·rw [hfoot] at hb'
    rcases List.mem_cons.1 hb' with rfl|hb'
    ·cases hh:hb b with
     | none=>rfl
     | some o=>rw [hle b o hh] at hg;cases hg
    ·exact hm.2.1 b hb'
   ·rw [hfoot]
    refine List.nodup_cons.2 ⟨fun hx=>?_,hm.2.2⟩
    obtain ⟨y,hy,ha⟩:=List.mem_flatMap.1 hx
    exact Foot.dom (hm.1 y hy) g ha hg
theorem zlE {α:Type} [Enc α] [Foot α] {x:Cx} {st:St} {c:Code} {Q:Exit→St→Prop} (r:Nat) {e:TypeId} (l:List α) {sz n:Nat} {xs:List Value} (hr:look r st.p=some (.row e sz n xs)) (hsz:sz=Enc.size α) (hn:n=l.length) (hxs:xs=l.flatMap Enc.enc) (hp:0 < Enc.size α)
  (hok:∀ x ∈ l,Enc.ok st.h x) (hb:Hp) (hbl:hb.le st.h) (hm:Mines hb st.h l) (h:∀ (s:Sl α) h',s.l=l→s.Ok h'→st.h.le h'→Mine hb h' s→T x (st.sub r s.val h') c Q):T x st c Q:=by
 subst hsz hn hxs
 refine zjO r hr fun ad cap h' H=>?_
 exact h ⟨ad,cap,l⟩ h' rfl (H.sl hp hok) H.le (H.mine hbl hok hm)
open Go Go.RowKit
class Mk (α:Type) where
 put:α→Int→α
 cnt:α→Nat
def mkL {α:Type} [Mk α]:List α→Int→List α
 | [],_=>[]
 | x :: l,k=>Mk.put x k :: mkL l (k+Mk.cnt x)
def cntL {α:Type} [Mk α] (l:List α):Nat:=(l.map Mk.cnt).sum
instance {α:Type} [Mk α]:Mk (Sl α):=⟨fun s k=>⟨s.a,s.cap,mkL s.l k⟩,fun s=>cntL s.l⟩
instance:Mk Int:=⟨fun _ k=>k,fun _=>1⟩
section
variable {α:Type} [Mk α]
theorem zO0:cntL ([]:List α)=0:=rfl
theorem zlF {x:α} {l:List α}:cntL (x :: l)=Mk.cnt x+cntL l:=by simp [cntL]
theorem zO1 {l m:List α}:cntL (l ++ m)=cntL l+cntL m:=by simp [cntL]
theorem zlG:∀ {l:List α} {k:Int},(mkL l k).length=l.length
 | [],_=>rfl
 | x :: l,k=>by simp [mkL,zlG]
theorem zO2:∀ {l m:List α} {k:Int},mkL (l ++ m) k=mkL l k ++ mkL m (k+cntL l)
 | [],m,k=>by simp [mkL,zO0]
 | x :: l,m,k=>by
  rw [List.cons_append,mkL,mkL,zO2,zlF,List.cons_append]
  congr 3
  omega
theorem zO3 {l:List α} {k:Int} {i:Nat} (hi:i < l.length):mkL (l.take (i+1)) k=mkL (l.take i) k ++ [Mk.put l[i] (k+cntL (l.take i))]:=by
 rw [List.take_succ_eq_append_getElem hi,zO2];rfl
theorem zO4 {l:List α} {i:Nat} (hi:i < l.length):cntL (l.take (i+1))=cntL (l.take i)+Mk.cnt l[i]:=by
 rw [List.take_succ_eq_append_getElem hi,zO1,zlF,zO0];omega
theorem zO5 {l:List α} {i:Nat}:cntL (l.take i)≤cntL l:=by
 conv=>rhs;rw [← List.take_append_drop i l,zO1]
 omega
def mkd (l:List α) (k:Int) (i:Nat):List α:=mkL (l.take i) k ++ l.drop i
theorem zO6 {l:List α} {k:Int}:mkd l k 0=l:=by simp [mkd,mkL]
theorem zO7 {l:List α} {k:Int} {i:Nat} (hi:l.length≤i):mkd l k i=mkL l k:=by simp [mkd,List.take_of_length_le hi,List.drop_eq_nil_of_le hi]
theorem zO8 {l:List α} {k:Int} {i:Nat}:(mkd l k i).length=l.length:=by
 simp only [mkd,List.length_append,zlG,List.length_take,List.length_drop];omega
theorem zO9 {l:List α} {k:Int} {i:Nat} (hi:i < l.length):(mkd l k i).set i (Mk.put l[i] (k+cntL (l.take i)))=mkd l k (i+1):=by
 have h1:(mkL (l.take i) k).length=i:=by rw [zlG,List.length_take];omega
 simp only [mkd]
 rw [List.set_append_right i _ (by omega),h1,Nat.sub_self,zO3 hi,List.drop_eq_getElem_cons hi,List.set_cons_zero,List.append_assoc]
 rfl
end
def rowL {α:Type} [Enc α] (l:List α) (spare:List Value):List Value:=l.flatMap Enc.enc ++ spare
theorem zPa {α:Type} [Enc α] {l:List α} {spare:List Value}:(rowL l spare).length=l.length * Enc.size α+spare.length:=by rw [rowL,List.length_append,ziq Enc.len]
theorem zlH {α:Type} [Enc α] {l:List α} {spare:List Value} {i:Nat} {x:α} (hi:i < l.length):zbG (i * Enc.size α) (Enc.enc x) (rowL l spare)=rowL (l.set i x) spare:=by
 have h1:((l.take i).flatMap Enc.enc).length=i * Enc.size α:=by rw [ziq Enc.len,List.length_take,Nat.min_eq_left (Nat.le_of_lt hi)]
 have e1:rowL l spare=(l.take i).flatMap Enc.enc ++ (Enc.enc l[i] ++ ((l.drop (i+1)).flatMap Enc.enc ++ spare)):=by
  have e0:l=l.take i ++ l[i] :: l.drop (i+1):=by rw [← List.drop_eq_getElem_cons hi,List.take_append_drop]
  have:=congrArg (fun z=>z.flatMap Enc.enc ++ spare) e0
  simp only [List.flatMap_append,List.flatMap_cons,List.append_assoc] at this
  exact this
 have e2:rowL (l.set i x) spare=(l.take i).flatMap Enc.enc ++ (Enc.enc x ++ ((l.drop (i+1)).flatMap Enc.enc ++ spare)):=by
  rw [rowL,List.set_eq_take_append_cons_drop,if_pos hi]
  simp
 rw [e1,e2,zbG,List.take_left' h1,List.drop_append,h1,Enc.len,List.drop_eq_nil_of_le (by rw [h1];omega),List.nil_append,Nat.add_sub_cancel_left,List.drop_left' (Enc.len _)]
theorem zPb {o:Nat} {m:List Value} {v:Value} {xs:List Value} (hl:o+m.length < xs.length):zbG (o+m.length) [v] (zbG o m xs)=zbG o (m ++ [v]) xs:=by
 have h1:(xs.take o).length=o:=by rw [List.length_take];omega
 simp only [zbG]
 rw [List.take_append,h1,List.take_of_length_le (by omega),Nat.add_sub_cancel_left,List.take_left' rfl,List.drop_append,h1,List.drop_eq_nil_of_le (by omega),List.nil_append,List.length_singleton,
  show o+m.length+1 - o=m.length+1 by omega,List.drop_append,List.drop_eq_nil_of_le (by omega),List.nil_append,Nat.add_sub_cancel_left,List.drop_drop,List.length_append,List.length_singleton]
 simp [Nat.add_assoc]
theorem zPc {o:Nat} {m:List Value} {v:Value} {xs:List Value} (hl:o+m.length < xs.length):spl (o+m.length) [v] (spl o m xs)=spl o (m ++ [v]) xs:=zPb hl
theorem zlI {o:Nat} {m xs:List Value} (h:o+m.length≤xs.length):(spl o m xs).length=xs.length:=zcF h
theorem zPd {α:Type} [Enc α] {h:Hp} {g cap:Nat} {e:TypeId} {l:List α} {spare:List Value} (hp:0 < Enc.size α) (hb:h g=some (.cells (rowL l spare).toArray e (0,0))) (hc:l.length≤cap) (hm:cap≤maxLen) (hok:∀ x ∈ l,Enc.ok h x) :
  (Sl.mk (some ⟨g,0,none⟩) cap l).Ok h:=by
 refine ⟨hc,fun _=>rfl,fun i x hx=>?_,hok,hm⟩
 have hi:i < l.length:=(List.getElem?_eq_some_iff.1 hx).1
 refine zad (Enc.len x) fun j v hj=>?_
 have hjl:j < Enc.size α:=by rw [← Enc.len x];exact (List.getElem?_eq_some_iff.1 hj).1
 have hfl:(l.flatMap Enc.enc)[i * Enc.size α+j]?=some v:=by
  rw [zio Enc.len hp]
  have e1:(i * Enc.size α+j) / Enc.size α=i:=by rw [Nat.add_comm,Nat.add_mul_div_right _ _ hp,Nat.div_eq_of_lt hjl,Nat.zero_add]
  have e2:(i * Enc.size α+j) % Enc.size α=j:=by rw [Nat.add_comm,Nat.add_mul_mod_self_right,Nat.mod_eq_of_lt hjl]
  rw [e1,e2,hx]
  exact hj
 rw [zir,Nat.zero_add,za4]
 simp only [Hp.cell,hb,Option.isSome_none,Bool.false_eq_true,if_false,Nat.zero_add,List.getElem?_toArray,rowL]
 rw [List.getElem?_append_left (by exact (List.getElem?_eq_some_iff.1 hfl).1)]
 exact hfl
theorem zPe {α:Type} [Enc α] [Foot α] {h:Hp} {s:Sl α} (hp:0 < Enc.size α) (hok:s.Ok h) (ho:Foot.own h s) (hl:s.l ≠ []) :
  ∃ g e spare,s.a=some ⟨g,0,none⟩∧h g=some (.cells (rowL s.l spare).toArray e (0,0))∧s.l.length * Enc.size α+spare.length=s.cap * Enc.size α:=by
 obtain ⟨⟨g,cur,e,ha,hb,hsz⟩,_⟩:=ho hl
 have hall:=hok.all hp
 unfold Hp.ldL at hall
 have hlen:s.l.length ≠ 0:=fun e=>hl (List.length_eq_zero_iff.1 e)
 have hall:(if s.l.length=0 then some [] else h.lds s.a (s.l.length * Enc.size α))=some (s.l.flatMap Enc.enc):=hall
 rw [if_neg hlen,ha] at hall
 obtain ⟨h1,h2⟩:=zac (show h.cellsAt ⟨g,0,none⟩ 0 _=some _ from hall)
 have hcur:cur.toList.take (s.l.length * Enc.size α)=s.l.flatMap Enc.enc:=by
  apply List.ext_getElem?
  intro j
  by_cases hj:j < s.l.length * Enc.size α
  ·rw [List.getElem?_take,if_pos hj]
   have hj':j < (s.l.flatMap Enc.enc).length:=by rw [h1];exact hj
   have:=h2 j _ (List.getElem?_eq_getElem hj')
   rw [za4] at this
   simp only [Hp.cell,hb,Option.isSome_none,Bool.false_eq_true,if_false,Nat.zero_add] at this
   rw [List.getElem?_eq_getElem hj',← this,Array.getElem?_toList]
  ·rw [List.getElem?_take,if_neg hj,List.getElem?_eq_none (by omega)]
 have hle:s.l.length * Enc.size α≤s.cap * Enc.size α:=Nat.mul_le_mul_right _ hok.1
 refine ⟨g,e,cur.toList.drop (s.l.length * Enc.size α),ha,?_,?_⟩
 ·rw [hb,rowL,← hcur,List.take_append_drop]
 ·rw [List.length_drop,Array.length_toList,hsz];omega
end Go.SL
