/- Plain theorems about the model. -/
import Derived.Deep.Fields
import Derived.Deep.Slices
import Derived.ProofKit
import Derived.Test.YtbkaaakphpbmiaaGreatSWaitStrategyx1
set_option linter.unusedVariables false
set_option linter.unusedSimpArgs false
set_option maxRecDepth 4000
open Bool renaming and_eq_true → jJ, false_eq_true → qW
open List renaming length_append → jP, length_singleton → jg, flatMap_append → jF, nil_append → jG, take_succ_eq_append_getElem → qw, take_of_length_le → qy, getElem?_eq_getElem → qX, getElem_mem → qd, mem_cons_of_mem → qg, mem_cons_self → qC, getElem_of_mem → qL, length_take → ww, map_cons → wx, replicate → wQ, all_eq_true → wY, flatMap_cons → wV, map_congr_left → wb, not_mem_nil → wB, getElem?_append_left → wF, map_map → yj, mem_append_left → yy, mem_cons → yv, take_append_drop → yk, append_assoc → yx, append_nil → yJ, mem_append_right → yb, mem_append → ye, nodup_append → yE, getElem?_take → yF, map_id → ux, getElem?_append_right → uJ, take_left' → uP, length_drop → ub, getElem_append_right → uC, getElem?_eq_none → uE, getElem?_drop → uF, flatMap_nil → uH, getElem?_cons_zero → Jw, flatMap_eq_nil_iff → Jv, drop_eq_nil_of_le → Jp, map_replicate → JV, drop_eq_getElem_cons → JX
open Nat renaming zero_add → jb, zero_le → jC, add_zero → qJ, le_refl → qV, mul_one → wy, le_trans → wK, mul_le_mul_right → wP, lt_of_lt_of_le → yK, add_mul → yP, mod_eq_of_lt → uv, add_comm → uV, le_add_right → uK, add_sub_cancel_left → Jy, one_mul → JQ, add_mul_mod_self_right → JY, min_eq_left → Ja, sub_self → Je
open Option renaming map_some → qq, map → qe, isSome_none → yG
open Array renaming length_toList → uA, toList_map → uG
open Int renaming tmod → Jx
namespace Go.SL
open Go Go.RowKit
def SC.sub (r:Nat) (v:Value):SC→SC
 | .v x=>.v x
 | .s r'=>if r'=r then .v v else .s r'
 | .p r' o=>if r'=r then .v (.pointer (some ⟨blk v,o,none⟩)) else .p r' o
def SV.sub (r:Nat) (v:Value):SV→SV
 | .c x=>.c (x.sub r v)
 | .g cs=>.g (cs.map (·.sub r v))
def subE (r:Nat) (v:Value):Env→Env
 | []=>[]
 | (t,c,sv) :: e=>(t,c,sv.sub r v) :: subE r v e
def PB.sub (r:Nat) (v:Value):PB→PB
 | .box ty cs=>.box ty (cs.map (·.sub r v))
 | .row e sz n xs=>.row e sz n xs
def subP (r:Nat) (v:Value):List (Nat × PB)→List (Nat × PB)
 | []=>[]
 | (k,b) :: p=>(k,b.sub r v) :: subP r v p
def St.sub (st:St) (r:Nat) (v:Value) (h':Hp):St:=⟨subE r v st.e,subP r v (zb2 r st.p),h',st.nx⟩
section
variable {r:Nat} {v:Value} {ρ:Rho} {n:Nat}
theorem SC.sub_conc (a:ρ r=v) (x:SC):(x.sub r v).conc ρ=x.conc ρ:=by
 cases x with
 | v x=>rfl
 | s r'=>simp only [SC.sub];split <;> simp_all
 | p r' o=>simp only [SC.sub];split <;> simp_all
theorem SV.sub_conc (a:ρ r=v) (x:SV):(x.sub r v).conc ρ=x.conc ρ:=by
 cases x with
 | c x=>exact SC.sub_conc a x
 | g cs=>simp only [SV.sub,zal,yj];congr 2;exact wb fun x _=>SC.sub_conc a x
theorem SC.sub_lt {x:SC} (h:x.lt n=true):(x.sub r v).lt n=true:=by
 cases x with
 | v x=>rfl
 | s r'=>simp only [SC.sub];split <;> first|rfl|exact h
 | p r' o=>simp only [SC.sub];split <;> first|rfl|exact h
theorem SV.sub_lt {x:SV} (h:x.lt n=true):(x.sub r v).lt n=true:=by
 cases x with
 | c x=>exact SC.sub_lt h
 | g cs =>
  simp only [SV.sub,SV.lt,wY,List.mem_map] at h ⊢
  rintro _ ⟨y,a,rfl⟩
  exact SC.sub_lt (h y a)
theorem zjK {t:Nat} {c:Bool} {a:SV}:∀ {e:Env},look t (subE r v e)=some (c,a)→∃ sv,look t e=some (c,sv)∧a=sv.sub r v
 | [],h=>by cases h
 | (k,d,sv) :: e,h=>by
  simp only [subE,look] at h ⊢
  split at h
  ·rename_i b;rw [if_pos b];simp only [Option.some.injEq,Prod.mk.injEq] at h;exact ⟨sv,by rw [h.1],h.2.symm⟩
  ·rename_i b;rw [if_neg b];exact zjK h
theorem zjL {t:Nat} {c:PB}:∀ {p:List (Nat × PB)},look t (subP r v p)=some c→∃ b,look t p=some b∧c=b.sub r v
 | [],h=>by cases h
 | (k,b) :: e,h=>by
  simp only [subP,look] at h ⊢
  split at h
  ·rename_i a;rw [if_pos a];simp only [Option.some.injEq] at h;exact ⟨b,rfl,h.symm⟩
  ·rename_i a;rw [if_neg a];exact zjL h
theorem zjM:∀ {e:Env},zam n e=true→zam n (subE r v e)=true
 | [],_=>rfl
 | (k,c,sv) :: e,h=>by
  simp only [zam,jJ,subE] at h ⊢
  exact ⟨SV.sub_lt h.1,zjM h.2⟩
theorem zjN:∀ {p:List (Nat × PB)},pbLt n p=true→pbLt n (subP r v p)=true
 | [],_=>rfl
 | (k,b) :: e,h=>by
  simp only [pbLt,jJ,subP] at h ⊢
  refine ⟨⟨h.1.1,?_⟩,zjN h.2⟩
  cases b with
  | box ty cs =>
   have:=h.1.2
   simp only [PB.sub,PB.lt,wY,List.mem_map] at this ⊢
   rintro _ ⟨y,a,rfl⟩
   exact SC.sub_lt (this y a)
  | row=>rfl
theorem PB.ok_sub {a k:Nat} {W:World} {b:PB} (c:ρ r=v) (h:b.ok a ρ k W):(b.sub r v).ok a ρ k W:=by
 cases b with
 | box ty cs =>
  obtain ⟨g,d,h2,e⟩:=h
  refine ⟨g,d,h2,?_⟩
  rw [e,yj]
  congr 3
  exact wb fun x _=>(SC.sub_conc c x).symm
 | row=>exact h
end
def Pub (h:Hp) (e:TypeId) (sz n:Nat) (xs:List Value) (ad:Option Addr) (cap:Nat) (h':Hp):Prop :=
 xs.length=n * sz∧n≤cap∧cap≤maxLen∧((ad=none∧n=0∧cap=0∧h'=h)∨∃ g cur,ad=some ⟨g,0,none⟩∧h g=none∧h'=h.ins g (.cells cur e (0,0))∧cur.size=cap * sz∧cur.toList.take (n * sz)=xs)
theorem Conc.pub {W0:Base} {h0:Hp} {N:Nat} {st:St} {a:Act} {W:World} {r:Nat} {e:TypeId} {R n:Nat} {xs:List Value} (x:look r st.p=some (.row e R n xs)) (hC:Conc W0 h0 N st a W) :
  ∃ X cap h',Pub st.h e R n xs X cap h'∧Conc W0 h0 N (st.sub r (.slice X n cap) h') a W:=by
 obtain ⟨ρ,hf,hW,hw⟩:=hC
 have s:=hW.priv r _ x
 obtain ⟨y,s⟩:=s
 have f:∀ {v:Value} {k m},look k (subP r v (zb2 r st.p))=some m→∃ b,look k st.p=some b∧k ≠ r∧m=b.sub r v:=by
  intro v k m i
  obtain ⟨b,d,h2⟩:=zjL i
  exact ⟨b,(zb3 d).1,(zb3 d).2,h2⟩
 have D:∀ v h',(st.sub r v h').wf=true:=by
  intro v h'
  simp only [St.wf,St.sub,jJ]
  exact ⟨zjM (wf_e hw),zjN (zb4 (wf_p hw))⟩
 have F:∀ v,ρ r=v→FOk N ρ (subE r v st.e) a:=by
  intro v q
  refine ⟨hf.1,hf.2.1,fun t c sv y=>?_⟩
  obtain ⟨Y,d,rfl⟩:=zjK y
  rw [SV.sub_conc q]
  exact hf.2.2 t c Y d
 rcases s with ⟨q,hn⟩|⟨g,cap,cur,q,hb,hg,H,J,Z,aa⟩
 ·subst hn
  refine ⟨none,0,st.h,⟨y,qV _,jC _,.inl ⟨rfl,rfl,rfl,rfl⟩⟩,ρ,F _ q,?_,D _ _⟩
  refine ⟨hW.below,hW.sees,hW.ext,hW.new,fun k m g i l=>?_,fun k m i=>?_,fun k m g i l=>?_,fun k b K m g i w d h2=>?_⟩
  ·obtain ⟨b,d,_,rfl⟩:=f i
   exact hW.own k b g d l
  ·obtain ⟨b,d,_,rfl⟩:=f i
   exact PB.ok_sub q (hW.priv k b d)
  ·obtain ⟨b,d,_,rfl⟩:=f i
   exact hW.apart k b g d l
  ·obtain ⟨b,M,_,rfl⟩:=f i
   obtain ⟨O,Q,_,rfl⟩:=f w
   exact hW.distinct k b K O g M Q d h2
 ·have u:PB.at ρ r g:=.inr ⟨n,cap,q⟩
  have G:=hW.apart r _ g x u
  refine ⟨some ⟨g,0,none⟩,cap,st.h.ins g (.cells cur e (0,0)),⟨y,H,J,.inr ⟨g,cur,rfl,G,rfl,Z,aa⟩⟩,ρ,F _ q,?_,D _ _⟩
  refine ⟨hW.below,fun b o j=>?_,fun b o d h2=>Hp.ins_le G b o (hW.ext b o d h2),fun b o j ab=>?_,fun k m z i l=>?_,fun k m i=>?_,fun k m z i l=>?_,fun k b K m g i w d h2=>?_⟩
  ·simp only [St.sub,Hp.ins] at j
   split at j
   ·rename_i e;subst e;simp only [Option.some.injEq] at j;rw [← j];exact hg
   ·exact hW.sees b o j
  ·simp only [St.sub,Hp.ins] at j
   split at j
   ·rename_i e;subst e;exact hW.own r _ _ x u
   ·exact hW.new b o j ab
  ·obtain ⟨b,d,_,rfl⟩:=f i
   exact hW.own k b z d l
  ·obtain ⟨b,d,_,rfl⟩:=f i
   exact PB.ok_sub q (hW.priv k b d)
  ·obtain ⟨b,d,ac,rfl⟩:=f i
   simp only [St.sub,Hp.ins]
   split
   ·rename_i e;subst e
    exact (ac (hW.distinct k b r _ z d x l u)).elim
   ·exact hW.apart k b z d l
  ·obtain ⟨b,M,_,rfl⟩:=f i
   obtain ⟨O,Q,_,rfl⟩:=f w
   exact hW.distinct k b K O g M Q d h2
theorem zjO {x:Cx} {st:St} {c:Code} {Q:Exit→St→Prop} (r:Nat) {e:TypeId} {d n:Nat} {xs:List Value} (g:look r st.p=some (.row e d n xs))
  (h:∀ b cap h',Pub st.h e d n xs b cap h'→T x (st.sub r (.slice b n cap) h') c Q):T x st c Q:=by
 unfold T at *
 intro a W i
 obtain ⟨b,cap,h',j,f⟩:=i.pub g
 exact h b cap h' j a W f
def zjP (h _h':Hp) (ad:Option Addr):Prop:=∀ a,ad=some a→h a.block=none∧a.off=0∧a.spot=none
def Only (h h':Hp) (ad:Option Addr):Prop:=∀ b,(∀ a,ad=some a→a.block ≠ b)→h' b=h b
theorem Pub.le {h h':Hp} {e:TypeId} {a n:Nat} {xs:List Value} {b:Option Addr} {cap:Nat} (H:Pub h e a n xs b cap h'):h.le h':=by
 rcases H.2.2.2 with ⟨_,_,_,rfl⟩|⟨g,cur,_,c,rfl,_⟩
 ·exact Hp.le_refl _
 ·exact Hp.ins_le c
theorem Pub.fresh {h h':Hp} {e:TypeId} {d n:Nat} {xs:List Value} {c:Option Addr} {cap:Nat} (H:Pub h e d n xs c cap h'):zjP h h' c∧Only h h' c:=by
 rcases H.2.2.2 with ⟨rfl,_,_,rfl⟩|⟨g,cur,rfl,f,rfl,_⟩
 ·exact ⟨fun a e=>by (cases e),fun b _=>rfl⟩
 ·refine ⟨fun a e=>by cases e;exact ⟨f,rfl,rfl⟩,fun b i=>?_⟩
  have:=i _ rfl
  simp only [Hp.ins]
  rw [if_neg (Ne.symm this)]
theorem Pub.sl {α:Type} [Enc α] {h h':Hp} {e:TypeId} {l:List α} {d:Option Addr} {cap:Nat} (f:0 < Enc.size α) (H:Pub h e (Enc.size α) l.length (l.flatMap Enc.enc) d cap h') (k:∀ x ∈ l,Enc.ok h x):(Sl.mk d cap l).Ok h':=by
 have m:=H.le
 obtain ⟨F,h2,t,n⟩:=H
 refine ⟨h2,fun o=>?_,fun i x a=>?_,fun x a=>Enc.mono m (k x a),t⟩
 ·rcases n with ⟨_,p,_⟩|⟨g,cur,rfl,_⟩
  ·exact absurd (List.length_eq_zero_iff.1 p) o
  ·rfl
 ·have u:i < l.length:=(List.getElem?_eq_some_iff.1 a).1
  rcases n with ⟨_,p,_⟩|⟨g,cur,rfl,G,rfl,D,q⟩
  ·omega
  ·refine zad (Enc.len x) fun j v r=>?_
   have b:j < Enc.size α:=by rw [← Enc.len x];exact (List.getElem?_eq_some_iff.1 r).1
   have c:(l.flatMap Enc.enc)[i * Enc.size α+j]?=some v:=by
    rw [zio Enc.len f]
    have w:(i * Enc.size α+j) / Enc.size α=i:=by rw [uV,Nat.add_mul_div_right _ _ f,Nat.div_eq_of_lt b,jb]
    have y:(i * Enc.size α+j) % Enc.size α=j:=by rw [uV,JY,uv b]
    rw [w,y,a]
    exact r
   have s:i * Enc.size α+j < l.length * Enc.size α:=by
    have:(i+1) * Enc.size α≤l.length * Enc.size α:=wP _ u
    rw [yP,JQ] at this
    omega
   rw [← q,yF,if_pos s] at c
   simp only [qq]
   rw [zir,jb]
   have z:(Addr.add ⟨g,0,none⟩ (i * Enc.size α+j))=⟨g,i * Enc.size α+j,none⟩:=by rw [za4];simp
   rw [z]
   simp only [Hp.cell,Hp.ins,if_true,yG,qW,if_false]
   simpa using c
theorem zjQ {α:Type} [Enc α] {x:Cx} {st:St} {c:Code} {Q:Exit→St→Prop} (r:Nat) {e:TypeId} (l:List α) {b n:Nat} {xs:List Value} (i:look r st.p=some (.row e b n xs)) (d:b=Enc.size α) (j:n=l.length) (f:xs=l.flatMap Enc.enc) (k:0 < Enc.size α)
  (g:∀ x ∈ l,Enc.ok st.h x) (h:∀ (s:Sl α) h',s.l=l→s.Ok h'→st.h.le h'→zjP st.h h' s.a→Only st.h h' s.a→T x (st.sub r s.val h') c Q):T x st c Q:=by
 subst d j f
 refine zjO r i fun m cap h' H=>?_
 exact h ⟨m,cap,l⟩ h' rfl (H.sl k g) H.le H.fresh.1 H.fresh.2
section
variable {r r' o t:Nat} {v:Value} {c:Bool} {sv:SV} {e:Env} {p:List (Nat × PB)} {h h':Hp} {nx:Nat} {x:SC} {cs:List SC}
@[go_sem] theorem zjR:St.sub ⟨e,p,h,nx⟩ r v h'=⟨subE r v e,subP r v (zb2 r p),h',nx⟩:=rfl
@[go_sem] theorem zjS:subE r v []=[]:=rfl
@[go_sem] theorem zjT:subE r v ((t,c,sv) :: e)=(t,c,sv.sub r v) :: subE r v e:=rfl
@[go_sem] theorem zjU:subP r v []=[]:=rfl
@[go_sem] theorem zjV {b:PB}:subP r v ((t,b) :: p)=(t,b.sub r v) :: subP r v p:=rfl
@[go_sem] theorem zjW:SV.sub r v (.c x)=.c (x.sub r v):=rfl
@[go_sem] theorem zjX:SV.sub r v (.g cs)=.g (cs.map (·.sub r v)):=rfl
@[go_sem] theorem zjY {y:Value}:SC.sub r v (.v y)=.v y:=rfl
@[go_sem] theorem zjZ:SC.sub r v (.s r)=.v v:=by simp [SC.sub]
@[go_sem] theorem zj0 (h:(r' == r)=false):SC.sub r v (.s r')=.s r':=by
 have:r' ≠ r:=by simpa using h
 simp [SC.sub,this]
@[go_sem] theorem zj1:SC.sub r v (.p r o)=.v (.pointer (some ⟨blk v,o,none⟩)):=by simp [SC.sub]
@[go_sem] theorem zj2 (h:(r' == r)=false):SC.sub r v (.p r' o)=.p r' o:=by
 have:r' ≠ r:=by simpa using h
 simp [SC.sub,this]
@[go_sem] theorem zj3 {ty:TypeId}:PB.sub r v (.box ty cs)=.box ty (cs.map (·.sub r v)):=rfl
@[go_sem] theorem zj4 {e:TypeId} {a n:Nat} {xs:List Value}:PB.sub r v (.row e a n xs)=.row e a n xs:=rfl
end
open Go Go.RowKit
theorem zj5 (v:Value) (n:Nat):(madeCells #[v] (n * 1)).toList=wQ n v:=by
 apply List.ext_getElem?
 intro i
 simp only [madeCells,wy]
 by_cases a:i < n
 ·simp [a,Nat.mod_one]
 ·simp [a]
theorem zj6 {α:Type} (n:Nat) (z:List α):(wQ n z).flatten=(wQ n ()).flatMap fun _=>z:=by
 induction n with
 | zero=>rfl
 | succ n a=>rw [List.replicate_succ,List.replicate_succ,List.flatten_cons,wV,a]
theorem zj7 {z:Array Value} (n:Nat) (a:0 < z.size):(madeCells z (n * z.size)).toList=(wQ n z.toList).flatten:=by
 apply List.ext_getElem?
 intro i
 rw [zj6,zio (k:=z.size) (fun _=>by simp) a]
 simp only [madeCells]
 by_cases b:i < n * z.size
 ·have c:i / z.size < n:=(Nat.div_lt_iff_lt_mul a).2 b
  have d:i % z.size < z.size:=Nat.mod_lt _ a
  simp [b,c,d]
 ·have c:¬ i / z.size < n:=fun h=>b ((Nat.div_lt_iff_lt_mul a).1 h)
  simp [b,c]
theorem zj8 {e:TypeId} {a n:Nat} {xs b:List Value} (h:xs=b):(some (PB.row e a n xs):Option PB)=some (PB.row e a n b):=by rw [h]
def conv {α:Type} [Enc α] (ds:List α) (n:Nat) (z:List Value):List Value:=ds.flatMap Enc.enc ++ (wQ (n - ds.length) z).flatten
theorem zj9 {α:Type} [Enc α] {a:List α} {n:Nat} {z:List Value} (c:a.length≤n) (b:z.length=Enc.size α):(conv a n z).length=n * Enc.size α:=by
 rw [conv,jP,ziq Enc.len,List.length_flatten,JV,List.sum_replicate_nat,b,← yP]
 congr 1;omega
theorem zka {α:Type} [Enc α] {a:List α} {n:Nat} {z:List Value} (b:n≤a.length):conv a n z=a.flatMap Enc.enc:=by
 rw [conv,Nat.sub_eq_zero_of_le b];simp
theorem zkb {α:Type} [Enc α] {a:List α} {d:α} {k n:Nat} {z:List Value} (e:a.length=k) (h:k < n) (f:z.length=Enc.size α):zbG (k * Enc.size α) (Enc.enc d) (conv a n z)=conv (a ++ [d]) n z:=by
 subst e
 have b:(a.flatMap Enc.enc).length=a.length * Enc.size α:=by rw [ziq Enc.len]
 obtain ⟨m,g⟩:∃ m,n - a.length=m+1:=⟨n - a.length - 1,by omega⟩
 have c:n - (a ++ [d]).length=m:=by rw [jP,jg];omega
 unfold zbG conv
 rw [g,c,List.replicate_succ,List.flatten_cons]
 rw [uP b,List.drop_append,b,Enc.len,Jp (by rw [b];omega),jG,Jy,List.drop_left' f,jF]
 simp
theorem zkc {α:Type} [Enc α] {n:Nat} {z:Array Value} (a:0 < z.size):(madeCells z (n * z.size)).toList=conv ([]:List α) n z.toList:=by
 rw [zj7 n a];simp [conv]
section
variable {x y z:Operand} {t t':TypeId} {b:BinOp} {u:UnOp} {n:Nat} {as:Array Operand} {ts:Array TypeId}
@[go_sem] theorem zkd:isQ (.move x)=true:=rfl
@[go_sem] theorem zke:isQ (.assign x)=true:=rfl
@[go_sem] theorem zkf:isQ (.pick x y z)=true:=rfl
@[go_sem] theorem zkg:isQ (.load t x)=true:=rfl
@[go_sem] theorem zkh:isQ (.nilCheck x)=true:=rfl
@[go_sem] theorem zki:isQ (.binOp b t x y t')=true:=rfl
@[go_sem] theorem zkj:isQ (.unOp u t x)=true:=rfl
@[go_sem] theorem zkk:isQ (.convert t t' x)=true:=rfl
@[go_sem] theorem zkl:isQ (.fieldAddr t x n)=true:=rfl
@[go_sem] theorem zkm:isQ (.field t x n)=true:=rfl
@[go_sem] theorem zkn:isQ (.indexAddr t x y)=true:=rfl
@[go_sem] theorem zko:isQ (.index t x y)=true:=rfl
@[go_sem] theorem zkp:isQ (.extract x n)=true:=rfl
@[go_sem] theorem zkq:isQ (.call ⟨.builtin .len,as,ts⟩)=true:=rfl
end
theorem zkr {P:Program} {st:St} {f:FuncId} {xs:List Value} {M:Value→Hp→Prop} {R:Value→Hp→Prop} {h0:Hp} (h:Ct P f xs h0 R) (a:st.h=h0) (b:∀ v h',h0.le h'→R v h'→M v h'):vfn P st true f xs M:=by
 subst a
 exact zhE h b
open Go Go.RowKit Go.ChangeShapes Go.WideShapes Go.Deep
def vw (w:World):Hp:=fun b=>w.heap[b]?
theorem zks (w:World):Sees (vw w) w:=fun _ _ h=>h
theorem zkt {w:World} {a:Addr}:(vw w).cell a=w.cell? a:=by
 unfold Hp.cell World.cell? vw
 rfl
theorem zku {w:World} {b n:Nat} {a:Addr} {cs:List Value} (h:w.cells? b a n=some cs):(vw w).lds (some a) n=some cs:=by
 obtain ⟨_,c,h2⟩:=World.cells?_some h
 refine zad c fun j v d=>?_
 have e:j < n:=by rw [← c];exact (List.getElem?_eq_some_iff.1 d).1
 rw [zkt,jb,h2 j e,d]
def Opens (α:Type) [Enc α] (P:Program) (t:TypeId):Prop :=
 ∀ (H:Type) (enc:TypeId × Value→H) (w:World) (base:Nat) (spare:Nat→Bool) (held:Bool) (fuel:Nat) (cs:List Value) (x:DataW H × List MemPlace),
  DataW.trod enc P w base spare held fuel t cs=some x→∃ a:α,cs=Enc.enc a∧Enc.ok (vw w) a
section
variable {P:Program} {t e:TypeId}
theorem zkv (b:P.underlying t=some (.int .i64)):Opens Int P t:=by
 intro H enc w c a d e cs x h
 obtain ⟨n,rfl,_,wf⟩:=DataW.trod_int b h
 refine ⟨n,rfl,?_⟩
 simp [Lit.wf] at wf
 simp only [Enc.ok,I64]
 exact wf
theorem zkw {α:Type} [Enc α] (s:P.underlying t=some (.slice e)) (u:P.cellsOf e=Enc.size α) (z:Opens α P e):Opens (Sl α) P t:=by
 intro H enc w g d j F cs x h
 rcases open_slice s h with ⟨rfl,_⟩|⟨a,c,cap,m,n,D,N,rfl,_,G,J,k,_,K⟩
 ·exact ⟨⟨none,0,[]⟩,rfl,⟨qV _,fun h=>(h rfl).elim,fun i x b=>by (cases b),fun x b=>by (cases b),jC _⟩⟩
 ·have l:c≤m:=by rw [k];split <;> omega
  have b:∀ i:Fin c,∃ y:α,(vw w).lds (some (a.add (i.1 * Enc.size α))) (Enc.size α)=some (Enc.enc y)∧Enc.ok (vw w) y:=by
   intro i
   obtain ⟨o,p,h2⟩:=K i.1 (yK i.2 l)
   obtain ⟨y,rfl,M⟩:=z H enc w g d j n o _ h2
   rw [u] at p
   exact ⟨y,zku p,M⟩
  let f:Fin c→α:=fun i=>(b i).choose
  have q:∀ i,(vw w).lds (some (a.add (i.1 * Enc.size α))) (Enc.size α)=some (Enc.enc (f i))∧Enc.ok (vw w) (f i):=fun i=>(b i).choose_spec
  refine ⟨⟨some a,cap,List.ofFn f⟩,by simp [Enc.enc,Sl.val],⟨by simpa using G,fun _=>rfl,fun i x b=>?_,fun x b=>?_,J⟩⟩
  ·simp only [List.getElem?_ofFn] at b
   split at b
   ·rename_i r
    simp only [Option.some.injEq] at b
    subst b
    exact (q ⟨i,r⟩).1
   ·cases b
  ·obtain ⟨i,rfl⟩:=List.mem_ofFn.1 b
   exact (q i).2
theorem zkx {H:Type} {enc:TypeId × Value→H} {w:World} {b:Nat} {a:Nat→Bool} {c:Bool} {d:Nat} {cs:List Value} {x:DataW H × List MemPlace} {e:Array Field} (j:P.underlying t=some (.struct e))
  (h:DataW.trod enc P w b a c d t cs=some x):cs.length=P.cellsOf t∧∀ (i:Nat) (f:Field),e[i]?=some f→∃ n y,DataW.trod enc P w b a c n f.type ((cs.drop f.offset).take (P.cellsOf f.type))=some y:=by
 obtain ⟨xs,n,_,_,k,h2,l⟩:=DataW.trod_struct j h
 refine ⟨k,fun i f g=>?_⟩
 have m:i < xs.length:=by rw [h2];exact (Array.getElem?_eq_some_iff.1 g).1
 exact ⟨n,xs[i],by rw [l i f g,qX m]⟩
theorem Opens.field {α:Type} [Enc α] {e:TypeId} (k:Opens α P e) {H:Type} {enc:TypeId × Value→H} {w:World} {c:Nat} {b:Nat→Bool} {d:Bool} {cs:List Value} {g:Array Field}
  (h:∀ (i:Nat) (f:Field),g[i]?=some f→∃ n y,DataW.trod enc P w c b d n f.type ((cs.drop f.offset).take (P.cellsOf f.type))=some y) (i off j:Nat) (l:∃ f,g[i]?=some f∧f.type=e∧f.offset=off) (m:P.cellsOf e=j) :
  ∃ a:α,(cs.drop off).take j=Enc.enc a∧Enc.ok (vw w) a:=by
 obtain ⟨f,o,rfl,rfl⟩:=l
 subst m
 obtain ⟨n,y,h⟩:=h i f o
 exact k H enc w c b d n _ y h
end
theorem zky {H:Type} {enc:TypeId × Value→H} {P:Program} {f:Func} {s:ChangeSpec} {c fresh d:Bool} {W i:World} {args:Array Value} {v:Value} {j:List (DataW H)} {a:List MemPlace}
  (m:DataW.Whole enc P f.params.toList s.vars c W args.toList j [] a) (q:Below W.heap.size W i)
  (n:∀ e,DataW.TrodVars enc P i e s.vars (s.fn H (j ++ [])).vars [])
  (l:∀ (b:Nat) (e:Nat→Bool) (r:Bool),DataW.TrodAll enc P i b e r f.resultTypes.toList (v.resultList f.resultTypes.size) (s.fn H (j ++ [])).results [])
  (k:∀ e:Nat→Bool,(∀ p ∈ a,e p.block=true)→DataW.TrodAll enc P i 0 e true f.params.toList args.toList (s.fn H (j ++ [])).args a) :
  s.post enc P f c fresh d false W args v i:=by
 have o:∀ p ∈ a,p.block < W.heap.size:=fun p g=>m.lt p g
 exact ⟨j,[],a,[],a,[],m,l _ _ _,k _ fun p g=>by simpa using o p g,n _,
  World.keptBut_mono (fun p g=>⟨g,.inr (.inl g)⟩) (q.frame (· ∈ a)),fun h=>by cases h⟩
open Go Go.RowKit
class Con (α:Type) (β:outParam Type) where
 con:α→β
instance:Con Int Int:=⟨id⟩
instance:Con Bool Bool:=⟨id⟩
instance {α β:Type} [Con α β]:Con (Sl α) (List β):=⟨fun s=>s.l.map Con.con⟩
theorem zkz {α β:Type} [Con α β] {s:Sl α}:Con.con s=s.l.map Con.con:=rfl
theorem con_ints {s:Sl Int}:Con.con s=s.l:=ux _
def zkA (s:ByteArray):Prop:=s.size≤maxLen
instance:Con ByteArray ByteArray:=⟨id⟩
class Blk (α:Type) where
 blk:α→Nat
instance:Blk Int:=⟨fun _=>0⟩
instance:Blk Bool:=⟨fun _=>0⟩
instance:Blk ByteArray:=⟨fun s=>s.size⟩
instance {α:Type} [Blk α]:Blk (Sl α):=⟨fun s=>s.l.length+(s.l.map Blk.blk).sum⟩
theorem zkB {α:Type} [Blk α] {s:Sl α}:Blk.blk s=s.l.length+(s.l.map Blk.blk).sum:=rfl
theorem zkC {α:Type} [Blk α] (h:∀ x:α,Blk.blk x=0) (s:Sl α):Blk.blk s=s.l.length:=by
 have:∀ l:List α,(l.map Blk.blk).sum=0:=fun l=>by induction l with|nil=>rfl|cons x l ih=>rw [wx,List.sum_cons,h,ih]
 rw [zkB,this,qJ]
def zkD (n:Int) (k:Nat):Int:=if n - k < 0 then -1 else n - k
theorem zkE {n:Int} {i j:Nat} (h:0≤zkD n i):zkD (zkD n i) j=zkD n (i+j):=by
 unfold zkD at *
 split at h
 ·omega
 ·rename_i a
  rw [if_neg a]
  split <;> split <;> omega
theorem zkF {n:Int} {k:Nat} (h:decide (zkD n k < 0)=false):0≤zkD n k:=by simpa using h
theorem zkG {n:Int} {k:Nat} (h:0≤n∧n≤1048576):zkD n k≤1048576:=by unfold zkD;split <;> omega
theorem zkH {n:Int} {k:Nat} (h:0≤n∧n≤1048576) (a:0≤zkD n k):0≤zkD n k∧zkD n k≤1048576:=⟨a,zkG h⟩
theorem zkI {n:Int} {k:Nat} (h:0≤zkD n k):(k:Int)≤n:=by unfold zkD at h;split at h <;> omega
theorem zkJ {n:Int} {k m:Nat} (h:zkD n k < 0) (a:k≤m):Value.int .i64 (-1)=Value.int .i64 (zkD n m):=by
 have:zkD n m=-1:=by unfold zkD at *;split at h <;> split <;> omega
 rw [this]
theorem zkK {n:Int} {k:Nat} (a:0≤n∧n≤1048576) (b:k≤9223372036854775807):IntKind.i64.wrap (n - k)=n - k:=zjz (by omega)
theorem zkL {n:Int} {k:Nat} (h:decide (n - (k:Int) < 0)=true):zkD n k < 0:=by have:=JE h;unfold zkD;rw [if_pos this];omega
theorem zkM {n:Int} {k:Nat} (h:decide (n - (k:Int) < 0)=false):n - (k:Int)=zkD n k∧0≤zkD n k:=by have:=JF h;unfold zkD;rw [if_neg this];omega
theorem zkN:∀ {l:List Nat} {x:Nat},x ∈ l→x≤l.sum
 | [],_,h=>by cases h
 | y :: l,x,h=>by
  rw [List.sum_cons]
  rcases List.mem_cons.1 h with rfl|h
  ·omega
  ·have:=zkN h;omega
theorem zkO {l:List Nat} {k:Nat} (a:k < l.length):(l.take (k+1)).sum=(l.take k).sum+l[k]:=by rw [qw a,List.sum_append];simp
theorem zkP {l:List Nat} {k:Nat}:(l.take k).sum≤l.sum:=by
 conv=>rhs;rw [← yk k l,List.sum_append]
 exact uK _ _
theorem zkQ {α:Type} [Enc α] {h:Hp} {s:Sl (Sl α)} (H:s.Ok h) {i:Nat} (b:i < s.l.length):h.lds (qe (·.add (i * 1)) s.a) 1=some [s.l[i].val]:=H.at b
theorem zkR {h:Hp} {s:Sl Int} (H:s.Ok h) {i:Nat} (b:i < s.l.length):h.lds (qe (·.add (i * 1)) s.a) 1=some [.int .i64 s.l[i]]:=H.at b
structure DCall where
 ship:Int
 src:Int
 dst:Int
 ready:Int
 due:Int
deriving DecidableEq
def DCall.cells (c:DCall):List Value:=[.int .i64 c.ship,.int .i64 c.src,.int .i64 c.dst,.int .i64 c.ready,.int .i64 c.due]
instance:Enc DCall where
 size:=5
 enc p:=p.cells
 len _:=rfl
 one p u hu:=by
  simp only [DCall.cells,yv,wB,or_false] at hu
  rcases hu with rfl|rfl|rfl|rfl|rfl <;> rfl
 ok h p:=I64 p.ship∧I64 p.src∧I64 p.dst∧I64 p.ready∧I64 p.due
 mono hs H:=by
  have K:=H
  obtain ⟨h0,h1,h2,h3,h4⟩:=K
  exact ⟨h0,h1,h2,h3,h4⟩
@[go_sem] theorem zkS {c:DCall}:Enc.enc c=[.int .i64 c.ship,.int .i64 c.src,.int .i64 c.dst,.int .i64 c.ready,.int .i64 c.due]:=rfl
instance:Con DCall DCall:=⟨id⟩
instance:Blk DCall:=⟨fun _=>0⟩
theorem zkT {h:Hp} {s:Sl DCall} (H:s.Ok h) {i:Nat} (b:i < s.l.length):h.lds (qe (·.add (i * 5)) s.a) 5=some [.int .i64 s.l[i].ship,.int .i64 s.l[i].src,.int .i64 s.l[i].dst,.int .i64 s.l[i].ready,.int .i64 s.l[i].due]:=H.at b
abbrev DCall.v (c:DCall):Value:=.agg #[.int .i64 c.ship,.int .i64 c.src,.int .i64 c.dst,.int .i64 c.ready,.int .i64 c.due]
structure DPassage where
 ship:Int
 seg:Int
 toward:Bool
 start:Int
 fin:Int
deriving DecidableEq
def DPassage.cells (c:DPassage):List Value:=[.int .i64 c.ship,.int .i64 c.seg,.bool c.toward,.int .i64 c.start,.int .i64 c.fin]
instance:Enc DPassage where
 size:=5
 enc p:=p.cells
 len _:=rfl
 one p u hu:=by
  simp only [DPassage.cells,yv,wB,or_false] at hu
  rcases hu with rfl|rfl|rfl|rfl|rfl <;> rfl
 ok h p:=I64 p.ship∧I64 p.seg∧I64 p.start∧I64 p.fin
 mono hs H:=by
  have K:=H
  obtain ⟨h0,h1,h2,h3⟩:=K
  exact ⟨h0,h1,h2,h3⟩
@[go_sem] theorem zkU {c:DPassage}:Enc.enc c=[.int .i64 c.ship,.int .i64 c.seg,.bool c.toward,.int .i64 c.start,.int .i64 c.fin]:=rfl
instance:Con DPassage DPassage:=⟨id⟩
instance:Blk DPassage:=⟨fun _=>0⟩
theorem zkV {h:Hp} {s:Sl DPassage} (H:s.Ok h) {i:Nat} (b:i < s.l.length):h.lds (qe (·.add (i * 5)) s.a) 5=some [.int .i64 s.l[i].ship,.int .i64 s.l[i].seg,.bool s.l[i].toward,.int .i64 s.l[i].start,.int .i64 s.l[i].fin]:=H.at b
abbrev DPassage.v (c:DPassage):Value:=.agg #[.int .i64 c.ship,.int .i64 c.seg,.bool c.toward,.int .i64 c.start,.int .i64 c.fin]
structure DOption where
 start:Int
 arr:Int
 cost:Int
 pas:Sl DPassage
def DOption.cells (c:DOption):List Value:=[.int .i64 c.start,.int .i64 c.arr,.int .i64 c.cost,c.pas.val]
instance:Enc DOption where
 size:=4
 enc p:=p.cells
 len _:=rfl
 one p u hu:=by
  simp only [DOption.cells,yv,wB,or_false] at hu
  rcases hu with rfl|rfl|rfl|rfl <;> rfl
 ok h p:=I64 p.start∧I64 p.arr∧I64 p.cost∧p.pas.Ok h
 mono hs H:=by
  have K:=H
  obtain ⟨h0,h1,h2,h3⟩:=K
  exact ⟨h0,h1,h2,h3.mono hs⟩
@[go_sem] theorem zkW {c:DOption}:Enc.enc c=[.int .i64 c.start,.int .i64 c.arr,.int .i64 c.cost,c.pas.val]:=rfl
structure POption where
 start:Int
 arr:Int
 cost:Int
 pas:List DPassage
deriving DecidableEq
instance:Con DOption POption:=⟨fun c=>⟨Con.con c.start,Con.con c.arr,Con.con c.cost,Con.con c.pas⟩⟩
theorem zkX {c:DOption}:Con.con c=POption.mk (Con.con c.start) (Con.con c.arr) (Con.con c.cost) (Con.con c.pas):=rfl
instance:Blk DOption:=⟨fun c=>Blk.blk c.pas⟩
theorem zkY {c:DOption}:Blk.blk c=Blk.blk c.pas:=rfl
theorem zkZ {h:Hp} {s:Sl DOption} (H:s.Ok h) {i:Nat} (b:i < s.l.length):h.lds (qe (·.add (i * 4)) s.a) 4=some [.int .i64 s.l[i].start,.int .i64 s.l[i].arr,.int .i64 s.l[i].cost,s.l[i].pas.val]:=H.at b
abbrev DOption.v (c:DOption):Value:=.agg #[.int .i64 c.start,.int .i64 c.arr,.int .i64 c.cost,c.pas.val]
structure DCrew where
 tugs:Int
 pilots:Int
 rest:Int
 moves:Sl Int
def DCrew.cells (c:DCrew):List Value:=[.int .i64 c.tugs,.int .i64 c.pilots,.int .i64 c.rest,c.moves.val]
instance:Enc DCrew where
 size:=4
 enc p:=p.cells
 len _:=rfl
 one p u hu:=by
  simp only [DCrew.cells,yv,wB,or_false] at hu
  rcases hu with rfl|rfl|rfl|rfl <;> rfl
 ok h p:=I64 p.tugs∧I64 p.pilots∧I64 p.rest∧p.moves.Ok h
 mono hs H:=by
  have K:=H
  obtain ⟨h0,h1,h2,h3⟩:=K
  exact ⟨h0,h1,h2,h3.mono hs⟩
@[go_sem] theorem zk0 {c:DCrew}:Enc.enc c=[.int .i64 c.tugs,.int .i64 c.pilots,.int .i64 c.rest,c.moves.val]:=rfl
structure PCrew where
 tugs:Int
 pilots:Int
 rest:Int
 moves:List Int
deriving DecidableEq
instance:Con DCrew PCrew:=⟨fun c=>⟨Con.con c.tugs,Con.con c.pilots,Con.con c.rest,Con.con c.moves⟩⟩
theorem zk1 {c:DCrew}:Con.con c=PCrew.mk (Con.con c.tugs) (Con.con c.pilots) (Con.con c.rest) (Con.con c.moves):=rfl
instance:Blk DCrew:=⟨fun c=>Blk.blk c.moves⟩
theorem zk2 {c:DCrew}:Blk.blk c=Blk.blk c.moves:=rfl
abbrev DCrew.v (c:DCrew):Value:=.agg #[.int .i64 c.tugs,.int .i64 c.pilots,.int .i64 c.rest,c.moves.val]
structure DPart where
 amp:Int
 period:Int
 phase:Int
deriving DecidableEq
def DPart.cells (c:DPart):List Value:=[.int .i64 c.amp,.int .i64 c.period,.int .i64 c.phase]
instance:Enc DPart where
 size:=3
 enc p:=p.cells
 len _:=rfl
 one p u hu:=by
  simp only [DPart.cells,yv,wB,or_false] at hu
  rcases hu with rfl|rfl|rfl <;> rfl
 ok h p:=I64 p.amp∧I64 p.period∧I64 p.phase
 mono hs H:=by
  have K:=H
  obtain ⟨h0,h1,h2⟩:=K
  exact ⟨h0,h1,h2⟩
@[go_sem] theorem zk3 {c:DPart}:Enc.enc c=[.int .i64 c.amp,.int .i64 c.period,.int .i64 c.phase]:=rfl
instance:Con DPart DPart:=⟨id⟩
instance:Blk DPart:=⟨fun _=>0⟩
theorem zk4 {h:Hp} {s:Sl DPart} (H:s.Ok h) {i:Nat} (b:i < s.l.length):h.lds (qe (·.add (i * 3)) s.a) 3=some [.int .i64 s.l[i].amp,.int .i64 s.l[i].period,.int .i64 s.l[i].phase]:=H.at b
abbrev DPart.v (c:DPart):Value:=.agg #[.int .i64 c.amp,.int .i64 c.period,.int .i64 c.phase]
structure DTide where
 mean:Int
 parts:Sl DPart
def DTide.cells (c:DTide):List Value:=[.int .i64 c.mean,c.parts.val]
instance:Enc DTide where
 size:=2
 enc p:=p.cells
 len _:=rfl
 one p u hu:=by
  simp only [DTide.cells,yv,wB,or_false] at hu
  rcases hu with rfl|rfl <;> rfl
 ok h p:=I64 p.mean∧p.parts.Ok h
 mono hs H:=by
  have K:=H
  obtain ⟨h0,h1⟩:=K
  exact ⟨h0,h1.mono hs⟩
@[go_sem] theorem zk5 {c:DTide}:Enc.enc c=[.int .i64 c.mean,c.parts.val]:=rfl
structure PTide where
 mean:Int
 parts:List DPart
deriving DecidableEq
instance:Con DTide PTide:=⟨fun c=>⟨Con.con c.mean,Con.con c.parts⟩⟩
theorem zk6 {c:DTide}:Con.con c=PTide.mk (Con.con c.mean) (Con.con c.parts):=rfl
instance:Blk DTide:=⟨fun c=>Blk.blk c.parts⟩
theorem zk7 {c:DTide}:Blk.blk c=Blk.blk c.parts:=rfl
abbrev DTide.v (c:DTide):Value:=.agg #[.int .i64 c.mean,c.parts.val]
structure DSurge where
 src:Int
 low:Int
 high:Int
deriving DecidableEq
def DSurge.cells (c:DSurge):List Value:=[.int .i64 c.src,.int .i64 c.low,.int .i64 c.high]
instance:Enc DSurge where
 size:=3
 enc p:=p.cells
 len _:=rfl
 one p u hu:=by
  simp only [DSurge.cells,yv,wB,or_false] at hu
  rcases hu with rfl|rfl|rfl <;> rfl
 ok h p:=I64 p.src∧I64 p.low∧I64 p.high
 mono hs H:=by
  have K:=H
  obtain ⟨h0,h1,h2⟩:=K
  exact ⟨h0,h1,h2⟩
@[go_sem] theorem zk8 {c:DSurge}:Enc.enc c=[.int .i64 c.src,.int .i64 c.low,.int .i64 c.high]:=rfl
instance:Con DSurge DSurge:=⟨id⟩
instance:Blk DSurge:=⟨fun _=>0⟩
theorem zk9 {h:Hp} {s:Sl DSurge} (H:s.Ok h) {i:Nat} (b:i < s.l.length):h.lds (qe (·.add (i * 3)) s.a) 3=some [.int .i64 s.l[i].src,.int .i64 s.l[i].low,.int .i64 s.l[i].high]:=H.at b
abbrev DSurge.v (c:DSurge):Value:=.agg #[.int .i64 c.src,.int .i64 c.low,.int .i64 c.high]
structure DForecast where
 tide:DTide
 surges:Sl DSurge
def DForecast.cells (c:DForecast):List Value:=[.int .i64 c.tide.mean,c.tide.parts.val,c.surges.val]
instance:Enc DForecast where
 size:=3
 enc p:=p.cells
 len _:=rfl
 one p u hu:=by
  simp only [DForecast.cells,yv,wB,or_false] at hu
  rcases hu with rfl|rfl|rfl <;> rfl
 ok h p:=Enc.ok h p.tide∧p.surges.Ok h
 mono hs H:=by
  have K:=H
  obtain ⟨h0,h1⟩:=K
  exact ⟨Enc.mono hs h0,h1.mono hs⟩
@[go_sem] theorem zla {c:DForecast}:Enc.enc c=[.int .i64 c.tide.mean,c.tide.parts.val,c.surges.val]:=rfl
structure PForecast where
 tide:PTide
 surges:List DSurge
deriving DecidableEq
instance:Con DForecast PForecast:=⟨fun c=>⟨Con.con c.tide,Con.con c.surges⟩⟩
theorem zlb {c:DForecast}:Con.con c=PForecast.mk (Con.con c.tide) (Con.con c.surges):=rfl
instance:Blk DForecast:=⟨fun c=>Blk.blk c.tide+Blk.blk c.surges⟩
theorem zlc {c:DForecast}:Blk.blk c=Blk.blk c.tide+Blk.blk c.surges:=rfl
abbrev DForecast.v (c:DForecast):Value:=.agg #[.int .i64 c.tide.mean,c.tide.parts.val,c.surges.val]
structure DPoint where
 name:ByteArray
 wait:Bool
deriving DecidableEq
def DPoint.cells (c:DPoint):List Value:=[.string c.name,.bool c.wait]
instance:Enc DPoint where
 size:=2
 enc p:=p.cells
 len _:=rfl
 one p u hu:=by
  simp only [DPoint.cells,yv,wB,or_false] at hu
  rcases hu with rfl|rfl <;> rfl
 ok h p:=zkA p.name
 mono hs H:=by
  have K:=H
  have h0:=K
  exact h0
@[go_sem] theorem zld {c:DPoint}:Enc.enc c=[.string c.name,.bool c.wait]:=rfl
instance:Con DPoint DPoint:=⟨id⟩
instance:Blk DPoint:=⟨fun c=>Blk.blk c.name⟩
theorem zle {c:DPoint}:Blk.blk c=Blk.blk c.name:=rfl
theorem zlf {h:Hp} {s:Sl DPoint} (H:s.Ok h) {i:Nat} (b:i < s.l.length):h.lds (qe (·.add (i * 2)) s.a) 2=some [.string s.l[i].name,.bool s.l[i].wait]:=H.at b
abbrev DPoint.v (c:DPoint):Value:=.agg #[.string c.name,.bool c.wait]
structure DSegment where
 a:Int
 b:Int
 depth:Int
 minutes:Int
 meet:Bool
deriving DecidableEq
def DSegment.cells (c:DSegment):List Value:=[.int .i64 c.a,.int .i64 c.b,.int .i64 c.depth,.int .i64 c.minutes,.bool c.meet]
instance:Enc DSegment where
 size:=5
 enc p:=p.cells
 len _:=rfl
 one p u hu:=by
  simp only [DSegment.cells,yv,wB,or_false] at hu
  rcases hu with rfl|rfl|rfl|rfl|rfl <;> rfl
 ok h p:=I64 p.a∧I64 p.b∧I64 p.depth∧I64 p.minutes
 mono hs H:=by
  have K:=H
  obtain ⟨h0,h1,h2,h3⟩:=K
  exact ⟨h0,h1,h2,h3⟩
@[go_sem] theorem zlg {c:DSegment}:Enc.enc c=[.int .i64 c.a,.int .i64 c.b,.int .i64 c.depth,.int .i64 c.minutes,.bool c.meet]:=rfl
instance:Con DSegment DSegment:=⟨id⟩
instance:Blk DSegment:=⟨fun _=>0⟩
theorem zlh {h:Hp} {s:Sl DSegment} (H:s.Ok h) {i:Nat} (c:i < s.l.length):h.lds (qe (·.add (i * 5)) s.a) 5=some [.int .i64 s.l[i].a,.int .i64 s.l[i].b,.int .i64 s.l[i].depth,.int .i64 s.l[i].minutes,.bool s.l[i].meet]:=H.at c
abbrev DSegment.v (c:DSegment):Value:=.agg #[.int .i64 c.a,.int .i64 c.b,.int .i64 c.depth,.int .i64 c.minutes,.bool c.meet]
structure DChart where
 points:Sl DPoint
 segments:Sl DSegment
def DChart.cells (c:DChart):List Value:=[c.points.val,c.segments.val]
instance:Enc DChart where
 size:=2
 enc p:=p.cells
 len _:=rfl
 one p u hu:=by
  simp only [DChart.cells,yv,wB,or_false] at hu
  rcases hu with rfl|rfl <;> rfl
 ok h p:=p.points.Ok h∧p.segments.Ok h
 mono hs H:=by
  have K:=H
  obtain ⟨h0,h1⟩:=K
  exact ⟨h0.mono hs,h1.mono hs⟩
@[go_sem] theorem zli {c:DChart}:Enc.enc c=[c.points.val,c.segments.val]:=rfl
structure PChart where
 points:List DPoint
 segments:List DSegment
deriving DecidableEq
instance:Con DChart PChart:=⟨fun c=>⟨Con.con c.points,Con.con c.segments⟩⟩
theorem zlj {c:DChart}:Con.con c=PChart.mk (Con.con c.points) (Con.con c.segments):=rfl
instance:Blk DChart:=⟨fun c=>Blk.blk c.points+Blk.blk c.segments⟩
theorem zlk {c:DChart}:Blk.blk c=Blk.blk c.points+Blk.blk c.segments:=rfl
abbrev DChart.v (c:DChart):Value:=.agg #[c.points.val,c.segments.val]
structure DShip where
 name:ByteArray
 length:Int
 draught:Int
 line:Int
 tugs:Int
 slow:Bool
deriving DecidableEq
def DShip.cells (c:DShip):List Value:=[.string c.name,.int .i64 c.length,.int .i64 c.draught,.int .i64 c.line,.int .i64 c.tugs,.bool c.slow]
instance:Enc DShip where
 size:=6
 enc p:=p.cells
 len _:=rfl
 one p u hu:=by
  simp only [DShip.cells,yv,wB,or_false] at hu
  rcases hu with rfl|rfl|rfl|rfl|rfl|rfl <;> rfl
 ok h p:=zkA p.name∧I64 p.length∧I64 p.draught∧I64 p.line∧I64 p.tugs
 mono hs H:=by
  have K:=H
  obtain ⟨h0,h1,h2,h3,h4⟩:=K
  exact ⟨h0,h1,h2,h3,h4⟩
@[go_sem] theorem zll {c:DShip}:Enc.enc c=[.string c.name,.int .i64 c.length,.int .i64 c.draught,.int .i64 c.line,.int .i64 c.tugs,.bool c.slow]:=rfl
instance:Con DShip DShip:=⟨id⟩
instance:Blk DShip:=⟨fun c=>Blk.blk c.name⟩
theorem zlm {c:DShip}:Blk.blk c=Blk.blk c.name:=rfl
theorem zln {h:Hp} {s:Sl DShip} (H:s.Ok h) {i:Nat} (b:i < s.l.length):h.lds (qe (·.add (i * 6)) s.a) 6=some [.string s.l[i].name,.int .i64 s.l[i].length,.int .i64 s.l[i].draught,.int .i64 s.l[i].line,.int .i64 s.l[i].tugs,.bool s.l[i].slow]:=H.at b
abbrev DShip.v (c:DShip):Value:=.agg #[.string c.name,.int .i64 c.length,.int .i64 c.draught,.int .i64 c.line,.int .i64 c.tugs,.bool c.slow]
structure DRegime where
 gap:Int
 noMeet:Bool
deriving DecidableEq
def DRegime.cells (c:DRegime):List Value:=[.int .i64 c.gap,.bool c.noMeet]
instance:Enc DRegime where
 size:=2
 enc p:=p.cells
 len _:=rfl
 one p u hu:=by
  simp only [DRegime.cells,yv,wB,or_false] at hu
  rcases hu with rfl|rfl <;> rfl
 ok h p:=I64 p.gap
 mono hs H:=by
  have K:=H
  have h0:=K
  exact h0
@[go_sem] theorem zlo {c:DRegime}:Enc.enc c=[.int .i64 c.gap,.bool c.noMeet]:=rfl
instance:Con DRegime DRegime:=⟨id⟩
instance:Blk DRegime:=⟨fun _=>0⟩
abbrev DRegime.v (c:DRegime):Value:=.agg #[.int .i64 c.gap,.bool c.noMeet]
structure DHarbour where
 forecast:DForecast
 chart:DChart
 fleet:Sl DShip
 regime:DRegime
 crew:DCrew
def DHarbour.cells (c:DHarbour):List Value:=[.int .i64 c.forecast.tide.mean,c.forecast.tide.parts.val,c.forecast.surges.val,c.chart.points.val,c.chart.segments.val,c.fleet.val,.int .i64 c.regime.gap,.bool c.regime.noMeet,.int .i64 c.crew.tugs,.int .i64 c.crew.pilots,.int .i64 c.crew.rest,c.crew.moves.val]
instance:Enc DHarbour where
 size:=12
 enc p:=p.cells
 len _:=rfl
 one p u hu:=by
  simp only [DHarbour.cells,yv,wB,or_false] at hu
  rcases hu with rfl|rfl|rfl|rfl|rfl|rfl|rfl|rfl|rfl|rfl|rfl|rfl <;> rfl
 ok h p:=Enc.ok h p.forecast∧Enc.ok h p.chart∧p.fleet.Ok h∧Enc.ok h p.regime∧Enc.ok h p.crew
 mono hs H:=by
  have K:=H
  obtain ⟨h0,h1,h2,h3,h4⟩:=K
  exact ⟨Enc.mono hs h0,Enc.mono hs h1,h2.mono hs,Enc.mono hs h3,Enc.mono hs h4⟩
@[go_sem] theorem zlp {c:DHarbour}:Enc.enc c=[.int .i64 c.forecast.tide.mean,c.forecast.tide.parts.val,c.forecast.surges.val,c.chart.points.val,c.chart.segments.val,c.fleet.val,.int .i64 c.regime.gap,.bool c.regime.noMeet,.int .i64 c.crew.tugs,.int .i64 c.crew.pilots,.int .i64 c.crew.rest,c.crew.moves.val]:=rfl
structure PHarbour where
 forecast:PForecast
 chart:PChart
 fleet:List DShip
 regime:DRegime
 crew:PCrew
deriving DecidableEq
instance:Con DHarbour PHarbour:=⟨fun c=>⟨Con.con c.forecast,Con.con c.chart,Con.con c.fleet,Con.con c.regime,Con.con c.crew⟩⟩
theorem zlq {c:DHarbour}:Con.con c=PHarbour.mk (Con.con c.forecast) (Con.con c.chart) (Con.con c.fleet) (Con.con c.regime) (Con.con c.crew):=rfl
instance:Blk DHarbour:=⟨fun c=>Blk.blk c.forecast+Blk.blk c.chart+Blk.blk c.fleet+Blk.blk c.crew⟩
theorem zlr {c:DHarbour}:Blk.blk c=Blk.blk c.forecast+Blk.blk c.chart+Blk.blk c.fleet+Blk.blk c.crew:=rfl
abbrev DHarbour.v (c:DHarbour):Value:=.agg #[.int .i64 c.forecast.tide.mean,c.forecast.tide.parts.val,c.forecast.surges.val,c.chart.points.val,c.chart.segments.val,c.fleet.val,.int .i64 c.regime.gap,.bool c.regime.noMeet,.int .i64 c.crew.tugs,.int .i64 c.crew.pilots,.int .i64 c.crew.rest,c.crew.moves.val]
structure DBranch where
 low:Int
 high:Int
 plan:Sl DOption
def DBranch.cells (c:DBranch):List Value:=[.int .i64 c.low,.int .i64 c.high,c.plan.val]
instance:Enc DBranch where
 size:=3
 enc p:=p.cells
 len _:=rfl
 one p u hu:=by
  simp only [DBranch.cells,yv,wB,or_false] at hu
  rcases hu with rfl|rfl|rfl <;> rfl
 ok h p:=I64 p.low∧I64 p.high∧p.plan.Ok h
 mono hs H:=by
  have K:=H
  obtain ⟨h0,h1,h2⟩:=K
  exact ⟨h0,h1,h2.mono hs⟩
@[go_sem] theorem zls {c:DBranch}:Enc.enc c=[.int .i64 c.low,.int .i64 c.high,c.plan.val]:=rfl
structure PBranch where
 low:Int
 high:Int
 plan:List POption
deriving DecidableEq
instance:Con DBranch PBranch:=⟨fun c=>⟨Con.con c.low,Con.con c.high,Con.con c.plan⟩⟩
theorem zlt {c:DBranch}:Con.con c=PBranch.mk (Con.con c.low) (Con.con c.high) (Con.con c.plan):=rfl
instance:Blk DBranch:=⟨fun c=>Blk.blk c.plan⟩
theorem zlu {c:DBranch}:Blk.blk c=Blk.blk c.plan:=rfl
theorem zlv {h:Hp} {s:Sl DBranch} (H:s.Ok h) {i:Nat} (b:i < s.l.length):h.lds (qe (·.add (i * 3)) s.a) 3=some [.int .i64 s.l[i].low,.int .i64 s.l[i].high,s.l[i].plan.val]:=H.at b
abbrev DBranch.v (c:DBranch):Value:=.agg #[.int .i64 c.low,.int .i64 c.high,c.plan.val]
structure DStrategy where
 minute:Int
 branches:Sl DBranch
def DStrategy.cells (c:DStrategy):List Value:=[.int .i64 c.minute,c.branches.val]
instance:Enc DStrategy where
 size:=2
 enc p:=p.cells
 len _:=rfl
 one p u hu:=by
  simp only [DStrategy.cells,yv,wB,or_false] at hu
  rcases hu with rfl|rfl <;> rfl
 ok h p:=I64 p.minute∧p.branches.Ok h
 mono hs H:=by
  have K:=H
  obtain ⟨h0,h1⟩:=K
  exact ⟨h0,h1.mono hs⟩
@[go_sem] theorem zlw {c:DStrategy}:Enc.enc c=[.int .i64 c.minute,c.branches.val]:=rfl
structure PStrategy where
 minute:Int
 branches:List PBranch
deriving DecidableEq
instance:Con DStrategy PStrategy:=⟨fun c=>⟨Con.con c.minute,Con.con c.branches⟩⟩
theorem zlx {c:DStrategy}:Con.con c=PStrategy.mk (Con.con c.minute) (Con.con c.branches):=rfl
instance:Blk DStrategy:=⟨fun c=>Blk.blk c.branches⟩
theorem zly {c:DStrategy}:Blk.blk c=Blk.blk c.branches:=rfl
abbrev DStrategy.v (c:DStrategy):Value:=.agg #[.int .i64 c.minute,c.branches.val]
structure DWindow where
 src:Int
 dst:Int
deriving DecidableEq
def DWindow.cells (c:DWindow):List Value:=[.int .i64 c.src,.int .i64 c.dst]
instance:Enc DWindow where
 size:=2
 enc p:=p.cells
 len _:=rfl
 one p u hu:=by
  simp only [DWindow.cells,yv,wB,or_false] at hu
  rcases hu with rfl|rfl <;> rfl
 ok h p:=I64 p.src∧I64 p.dst
 mono hs H:=by
  have K:=H
  obtain ⟨h0,h1⟩:=K
  exact ⟨h0,h1⟩
@[go_sem] theorem zlz {c:DWindow}:Enc.enc c=[.int .i64 c.src,.int .i64 c.dst]:=rfl
instance:Con DWindow DWindow:=⟨id⟩
instance:Blk DWindow:=⟨fun _=>0⟩
theorem zlA {h:Hp} {s:Sl DWindow} (H:s.Ok h) {i:Nat} (b:i < s.l.length):h.lds (qe (·.add (i * 2)) s.a) 2=some [.int .i64 s.l[i].src,.int .i64 s.l[i].dst]:=H.at b
abbrev DWindow.v (c:DWindow):Value:=.agg #[.int .i64 c.src,.int .i64 c.dst]
structure DDuty where
 src:Int
 dst:Int
 a:Int
 b:Int
deriving DecidableEq
def DDuty.cells (c:DDuty):List Value:=[.int .i64 c.src,.int .i64 c.dst,.int .i64 c.a,.int .i64 c.b]
instance:Enc DDuty where
 size:=4
 enc p:=p.cells
 len _:=rfl
 one p u hu:=by
  simp only [DDuty.cells,yv,wB,or_false] at hu
  rcases hu with rfl|rfl|rfl|rfl <;> rfl
 ok h p:=I64 p.src∧I64 p.dst∧I64 p.a∧I64 p.b
 mono hs H:=by
  have K:=H
  obtain ⟨h0,h1,h2,h3⟩:=K
  exact ⟨h0,h1,h2,h3⟩
@[go_sem] theorem zlB {c:DDuty}:Enc.enc c=[.int .i64 c.src,.int .i64 c.dst,.int .i64 c.a,.int .i64 c.b]:=rfl
instance:Con DDuty DDuty:=⟨id⟩
instance:Blk DDuty:=⟨fun _=>0⟩
theorem zlC {h:Hp} {s:Sl DDuty} (H:s.Ok h) {i:Nat} (c:i < s.l.length):h.lds (qe (·.add (i * 4)) s.a) 4=some [.int .i64 s.l[i].src,.int .i64 s.l[i].dst,.int .i64 s.l[i].a,.int .i64 s.l[i].b]:=H.at c
abbrev DDuty.v (c:DDuty):Value:=.agg #[.int .i64 c.src,.int .i64 c.dst,.int .i64 c.a,.int .i64 c.b]
open Go Go.RowKit Go.ChangeShapes Go.WideShapes Go.Deep Go.ChangeAt
section
variable {P:Program} {t e:TypeId}
theorem zlD {b:TypeId} (d:P.underlying b=some (.int .i64)) {H:Type} {enc:TypeId × Value→H} {w:World} {base:Nat} {a:Nat→Bool} {held:Bool} {cs:List Value} {c:Array Field}
  (h:∀ (i:Nat) (f:Field),c[i]?=some f→∃ n y,DataW.trod enc P w base a held n f.type ((cs.drop f.offset).take (P.cellsOf f.type))=some y) (i off:Nat) (e:∃ f,c[i]?=some f∧f.type=b∧f.offset=off) (g:P.cellsOf b=1) :
  ∃ n:Int,(cs.drop off).take 1=[.int .i64 n]∧I64 n:=by
 obtain ⟨f,j,rfl,rfl⟩:=e
 obtain ⟨n,y,h⟩:=h i f j
 rw [g] at h
 obtain ⟨n,h2,_,wf⟩:=DataW.trod_int d h
 refine ⟨n,h2,?_⟩
 simp [Lit.wf] at wf
 exact wf
theorem zlE {b:TypeId} (d:P.underlying b=some .bool) {H:Type} {enc:TypeId × Value→H} {w:World} {base:Nat} {a:Nat→Bool} {held:Bool} {cs:List Value} {c:Array Field}
  (h:∀ (i:Nat) (f:Field),c[i]?=some f→∃ n y,DataW.trod enc P w base a held n f.type ((cs.drop f.offset).take (P.cellsOf f.type))=some y) (i off:Nat) (e:∃ f,c[i]?=some f∧f.type=b∧f.offset=off) (g:P.cellsOf b=1) :
  ∃ n:Bool,(cs.drop off).take 1=[.bool n]:=by
 obtain ⟨f,j,rfl,rfl⟩:=e
 obtain ⟨n,y,h⟩:=h i f j
 rw [g] at h
 obtain ⟨n,h2,_⟩:=DataW.trod_bool d h
 exact ⟨n,h2⟩
theorem zlF {b:TypeId} (d:P.underlying b=some .string) {H:Type} {enc:TypeId × Value→H} {w:World} {base:Nat} {a:Nat→Bool} {held:Bool} {cs:List Value} {c:Array Field}
  (h:∀ (i:Nat) (f:Field),c[i]?=some f→∃ n y,DataW.trod enc P w base a held n f.type ((cs.drop f.offset).take (P.cellsOf f.type))=some y) (i off:Nat) (e:∃ f,c[i]?=some f∧f.type=b∧f.offset=off) (g:P.cellsOf b=1) :
  ∃ n:ByteArray,(cs.drop off).take 1=[.string n]∧zkA n:=by
 obtain ⟨f,j,rfl,rfl⟩:=e
 obtain ⟨n,y,h⟩:=h i f j
 rw [g] at h
 obtain ⟨n,h2,_,k⟩:=DataW.trod_string d h
 exact ⟨n,h2,k⟩
end
section
variable {P:Program} {t e:TypeId} {H:Type} {enc:TypeId × Value→H} {W:World} {base base':Nat} {sp:Nat→Bool} {held:Bool} {v:Value} {d:DataW H} {p:List MemPlace}
theorem zlG {α:Type} [Enc α] (f:P.underlying t=some (.slice e)) (g:Opens (Sl α) P t) (i:Value.okWide P W .any base t v) (h:DataW.Trod enc P W base' sp held t v d p):∃ s:Sl α,v=s.val∧Enc.ok (vw W) s:=by
 obtain ⟨a,c,cap,rfl⟩:=okWide_slice f i
 obtain ⟨j,h⟩:=h
 obtain ⟨s,b,ok⟩:=g H enc W _ _ _ _ _ _ h
 have b:[Value.slice a c cap]=[s.val]:=b
 exact ⟨s,by injection b,ok⟩
theorem zlH {α:Type} [Enc α] {a:Array Field} (b:P.underlying t=some (.struct a)) (e:Opens α P t) (f:Value.okWide P W .any base t v) (h:DataW.Trod enc P W base' sp held t v d p):∃ c:α,v=.agg (Enc.enc c).toArray∧Enc.ok (vw W) c:=by
 obtain ⟨cs,rfl,_⟩:=okWide_struct b f
 obtain ⟨g,h⟩:=h
 obtain ⟨s,i,ok⟩:=e H enc W _ _ _ _ _ _ h
 have j:cs.toList=Enc.enc s:=i
 exact ⟨s,by rw [← j],ok⟩
theorem zlI (a:P.underlying t=some (.int .i64)) (b:Value.okWide P W .any base t v) (h:DataW.Trod enc P W base' sp held t v d p):∃ n:Int,v=.int .i64 n∧I64 n:=by
 obtain ⟨n,rfl⟩:=okWide_int a b
 obtain ⟨c,h⟩:=h
 obtain ⟨e,h2,_,wf⟩:=DataW.trod_int a h
 have h2:[Value.int .i64 n]=[.int .i64 e]:=h2
 injection h2 with h2
 injection h2 with _ h2
 subst h2
 refine ⟨n,rfl,?_⟩
 simp [Lit.wf] at wf
 exact wf
end
theorem zlJ {H:Type} {enc:TypeId × Value→H} {P:Program} {W f:World} {sp:Nat→Bool} (g:laidOutB P=true) (i:Below W.heap.size W f):∀ {ts:List TypeId} {vs:List Value} {c:List (DataW H)} {b:List MemPlace},
  (ts.all fun t=>P.readableRec t && decide (t < P.types.size))=true→(∀ x ∈ b,x.block < W.heap.size)→(∀ p ∈ b,sp p.block=true)→DataW.TrodAll enc P W 0 (fun _=>true) true ts vs c b→DataW.TrodAll enc P f 0 sp true ts vs c b
 | [],vs,c,b,_,_,_,h=>by
  obtain ⟨rfl,rfl,rfl⟩:=trodAll_nil h
  exact trodAll_mk0
 | t :: ts,vs,c,b,e,j,k,h=>by
  obtain ⟨v,m,d,n,p,q,rfl,rfl,rfl,l,h2⟩:=trodAll_cons h
  simp only [List.all_cons,jJ,JD] at e
  exact ⟨p,q,WideElems.Trod_stays g e.1.1 e.1.2 l (fun x a=>i.same (j x (yy _ a))) (fun x a=>k x (yy _ a)),
   zlJ g i (by simpa using e.2) (fun x a=>j x (yb _ a)) (fun x a=>k x (yb _ a)) h2,rfl⟩
open Go Go.RowKit
@[irreducible] def Cw (P:Program) (f:FuncId) (args:List Value) (h:Hp) (M:Nat→Prop) (R:Value→Hp→Prop):Prop :=
 (∀ A W,(callFunc f A).run P W=.ok (.enter f A) W) ∧
 ∀ W,Sees h W→Calls P f args.toArray W fun e W'=>∃ v h',e=.returned v∧R v h' ∧
  (W'.os=W.os∧W'.tape=W.tape∧W'.output=W.output∧W.heap.size≤W'.heap.size∧∀ k,k < W.heap.size→¬ M k→W'.heap[k]?=W.heap[k]?) ∧
  (∀ b o,h b=some o→¬ M b→h' b=some o)∧Sees h' W'∧∀ b o,h' b=some o→h b=none→W.heap.size≤b
theorem zlK {P:Program} {f:FuncId} {n:Func} {c:Code} {d:List Value} {h:Hp} {M:Nat→Prop} {R:Value→Hp→Prop} {s:List ResultVar} (u:∀ A W,(callFunc f A).run P W=.ok (.enter f A) W) (Q:P.funcs[f]?=some n) (i:n.body=some c) (G:n.results=s.toArray)
  (hN:d.length≤n.ntmps) (X:∀ b,M b→h b ≠ none)
  (H:∀ W0:Base,(∀ b,M b→W0.own b)→T ⟨P,W0,h,n.ntmps⟩ ⟨zdk 0 d,[],h,0⟩ c fun e st=>match e with
   | .normal=>zdg P st s fun vs=>R (zdh vs) st.h
   | .ret=>zdg P st s fun vs=>R (zdh vs) st.h
   | _=>False):Cw P f d h M R:=by
 unfold Cw
 refine ⟨u,fun W J=>calls_of_wp Q i ?_⟩
 have K:∀ b o,h b=some o→b < W.heap.size:=fun b o i=>(Array.getElem?_eq_some_iff.1 (J b o i)).1
 have H:=H ⟨W,fun g=>W.heap.size≤g∨M g,fun _ x=>.inl x⟩ (fun b i=>.inr i)
 unfold T at H
 refine Code.wp_mono ?_ (H _ W ⟨fun _=>undef,⟨rfl,by simp;omega,fun t cc sv Y=>?_⟩,⟨⟨rfl,rfl,rfl,qV _,fun _ _=>rfl⟩,J,fun b o x _=>x,fun b o p h2=>?_,fun r b g q=>(by cases q),fun r b q=>(by cases q),fun r b g q=>(by cases q),fun r b r' b' g q=>(by cases q)⟩,?_⟩)
 ·rintro e a' W' ⟨st',hq,⟨ρ,hfo,hW,hw⟩⟩
  have fin:(zdg P st' s fun vs=>R (zdh vs) st'.h)→a'.defers=[]∧∃ v,(results n a'.tmps).run P W'=.ok v W'∧∃ O h',Ending.returned v=.returned O∧R O h'∧(W'.os=W.os∧W'.tape=W.tape∧W'.output=W.output∧W.heap.size≤W'.heap.size∧∀ k,k < W.heap.size→¬ M k→W'.heap[k]?=W.heap[k]?)∧(∀ b o,h b=some o→¬ M b→h' b=some o)∧Sees h' W'∧∀ b o,h' b=some o→h b=none→W.heap.size≤b:=by
   intro w
   obtain ⟨vs,y,z⟩:=zdj (P:=P) (W0:=⟨W,fun g=>W.heap.size≤g∨M g,fun _ x=>.inl x⟩) (h0:=h) (N:=n.ntmps) hw w
   refine ⟨hfo.1,zdh vs,?_,_,_,rfl,y,⟨hW.below.os,hW.below.tape,hW.below.output,hW.below.size,fun k y D=>hW.below.block k (fun x=>x.elim (Nat.not_le_of_lt y) D)⟩,fun b o i D=>hW.ext b o i (fun x=>x.elim (Nat.not_le_of_lt (K b o i)) D),hW.sees,fun b o p h2=>?_⟩
   ·have p:(s.toArray.toList.mapM (m:=Sem) fun
     | .tmp t=>pure (a'.tmps.getD t undef)
     | .cell Z t=>do loadVar t (← asAddr (a'.tmps.getD Z undef))).run P W'=.ok vs W':=z ρ a' W' hfo hW
    unfold results
    rw [G,Sem.run_bind,Array.mapM_eq_mapM_toList]
    have e:∀ m:Sem (List Value),(List.toArray <$> m)=m >>= fun l=>pure l.toArray:=fun _=>rfl
    rw [e,Sem.run_bind]
    refine Eq.trans (congrArg (fun (r:Result (List Value))=>(r.andThen fun a w'=>Sem.run P (pure a.toArray) w').andThen fun a w'=>Sem.run P (pure (if h:a.size=1 then a[0] else Value.tuple a)) w') p) ?_
    simp only [Result.andThen_ok,Sem.run_pure]
    match vs with
    | []=>rfl
    | [v]=>rfl
    | _ :: _ :: _=>rfl
   ·rcases hW.new b o p h2 with F|F
    ·exact F
    ·exact (X b F h2).elim
  cases e with
  | normal=>exact fin hq
  | ret=>exact fin hq
  | _=>exact hq.elim
 ·obtain ⟨j,v,p,h2,rfl,rfl⟩:=zdl Y
  have hj:j < d.length:=(List.getElem?_eq_some_iff.1 h2).1
  rw [if_pos rfl,SV.conc_of,p,jb]
  have:=(List.getElem?_eq_some_iff.1 h2).2
  simp [Array.getElem?_append,hj,this]
 ·exact absurd (p.symm.trans h2) (by simp)
 ·simp [St.wf,zdm,pbLt]
theorem WOk.wrote {W0:Base} {h0:Hp} {ρ:Rho} {p:List (Nat × PB)} {h h':Hp} {W d:World} {M:Nat→Prop} (a:WOk W0 h0 ρ p h W)
  (f:d.os=W.os∧d.tape=W.tape∧d.output=W.output∧W.heap.size≤d.heap.size∧∀ k,k < W.heap.size→¬ M k→d.heap[k]?=W.heap[k]?)
  (l:∀ b,M b→h b ≠ none∧W0.own b) (m:∀ b o,h b=some o→¬ M b→h' b=some o) (y:Sees h' d) (n:∀ b o,h' b=some o→h b=none→W.heap.size≤b):WOk W0 h0 ρ p h' d:=by
 have q:∀ r b g,look r p=some b→PB.at ρ r g→¬ M g:=fun r b g c e i=>(l g i).1 (a.apart r b g c e)
 refine ⟨a.below.step f.1 f.2.1 f.2.2.1 f.2.2.2.1 fun k m s=>f.2.2.2.2 k s (fun i=>m (l k i).2),y,fun b o t h2=>m b o (a.ext b o t h2) (fun i=>h2 (l b i).2),fun b o u w=>?_,a.own,fun r b c=>?_,fun r b g c e=>?_,a.distinct⟩
 ·cases j:h b with
  | some z=>exact a.new b z j w
  | none=>exact W0.big b (wK a.below.size (n b o u j))
 ·exact PB.ok_keep (a.priv r b c) fun g x=>f.2.2.2.2 g (PB.ok_lt (a.priv r b c) x).2 (q r b g c x)
 ·cases j:h' g with
  | none=>rfl
  | some o =>
   have t:=n g o j (a.apart r b g c e)
   have h2:=(PB.ok_lt (a.priv r b c) e).2
   omega
@[irreducible] def vfnW (x:Cx) (st:St) (f:FuncId) (args:List Value) (K:Value→Hp→Prop):Prop :=
 ∃ M R,Cw x.P f args st.h M R∧(∀ b,M b→st.h b ≠ none∧(x.h0 b=none∨x.W0.own b))∧∀ v h',(∀ b o,st.h b=some o→¬ M b→h' b=some o)→(∀ b,h' b ≠ none→st.h b=none→x.W0.own b)→R v h'→K v h'
theorem zlL {x:Cx} {st:St} {f:FuncId} {a:List Value} {K:Value→Hp→Prop} {M:Nat→Prop} {R:Value→Hp→Prop} {h:Hp} (H:Cw x.P f a h M R) (c:st.h=h) (d:∀ b,M b→h b ≠ none∧(x.h0 b=none∨x.W0.own b))
  (e:∀ v h',(∀ b o,h b=some o→¬ M b→h' b=some o)→R v h'→K v h'):vfnW x st f a K:=by
 unfold vfnW;subst c;exact ⟨M,R,H,d,fun v h' g _ i=>e v h' g i⟩
def zlM (x:Cx) (st:St) (vf:SV) (vs:List SV) (K:Value→Hp→Prop):Prop :=
 match vf with
 | .c (.v (.func (.func f) fs cs))=>(vs.all (·.plain))=true∧vfnW x st f (fs.toList ++ (vs.map (·.pv) ++ cs.toList)) K
 | _=>False
def zlN (x:Cx) (st:St) (t:TypeId) (a y:SV) (K:Hp→Prop):Prop :=
 hasT x.P t=true∧y.plain=true∧(y.cells.all fun c=>c.val.oneCell')=true∧y.cells.length=szT x.P t∧∃ b off cur e,a=.c (.v (.pointer (some ⟨b,off,none⟩)))∧st.h b=some (.cells cur e (0,0))∧(x.h0 b=none∨x.W0.own b)∧off+szT x.P t≤cur.size ∧
  K (st.h.ins b (.cells (zbG off (y.cells.map (·.val)) cur.toList).toArray e (0,0)))
def vopX (x:Cx) (st:St) (o:Oper) (K:St→Prop):Prop :=
 o.guard=none∧match o.op with
 | .call c=>(match c.callee with
  | .value f=>getO st true f fun vf=>zaC st true c.args.toList fun vs=>zlM x st vf vs fun v h'=>K (St.mk (zb5 st.e o.dst true (.of v)) st.p h' st.nx)
  | _=>False)
 | .buildSlice t n ps=>zcl x.P st o t n ps K
 | .store t a y=>o.dst=none∧getO st true a fun va=>getO st true y fun vy=>zlN x st t va vy fun h'=>K (St.mk st.e st.p h' st.nx)
 | .makeFunc fn fs cs=>zaC st true fs.toList fun us=>zaC st true cs.toList fun vs=>(us.all (·.plain))=true∧(vs.all (·.plain))=true∧K (St.mk (zb5 st.e o.dst true (.c (.v (.func fn (us.map (·.pv)).toArray (vs.map (·.pv)).toArray)))) st.p st.h st.nx)
 | _=>False
def vpub (st:St) (d:Option Nat) (K:St→Prop):Prop :=
 onD d fun t=>match look t st.e with
  | some (true,.c (.s r))=>(match look r st.p with
   | some (.row e sz n xs)=>∀ ad cap h',Pub st.h e sz n xs ad cap h'→K (st.sub r (.slice ad n cap) h')
   | _=>False)
  | _=>False
def zlO (x:Cx) (ops:List Oper) (K:St→Prop):List Nat→List Oper→St→Prop
 | [],l,st=>vops x.P ops l st K
 | 0 :: bs,o :: l,st=>vop x.P ops st o fun st'=>zlO x ops K bs l st'
 | 1 :: bs,o :: l,st=>vopX x st o fun st'=>zlO x ops K bs l st'
 | _ :: bs,o :: l,st=>vop x.P ops st o fun st'=>vpub st' o.dst fun st'=>zlO x ops K bs l st'
 | _ :: _,[],_=>False
section
variable {x:Cx} {st:St} {Q:Exit→St→Prop}
theorem zlP {a:SV} {vs:List SV} {K:Value→Hp→Prop} (h:zlM x st a vs K):∃ b d cs,a=.c (.v (.func (.func b) d cs)):=by
 unfold zlM at h
 split at h
 ·exact ⟨_,_,_,rfl⟩
 ·exact h.elim
theorem Conc.own_new {W0:Base} {h0:Hp} {ρ:Rho} {p:List (Nat × PB)} {h:Hp} {W:World} (c:WOk W0 h0 ρ p h W) {b:Nat} (d:h b ≠ none) (h2:h0 b=none∨W0.own b):W0.own b:=by
 rcases h2 with h2|h2
 ·cases a:h b with
  | none=>exact (d a).elim
  | some o=>exact c.new b o a h2
 ·exact h2
theorem zlQ {o:Oper} {K:St→Prop} {QQ:Exit→Act→World→Prop} {a:Act} {W:World} (hd:∀ d',o.dst=some d'→d' < x.N) (h:vopX x st o K) (hC:Conc x.W0 x.h0 x.N st a W) :
  (∀ tm,Region.wanted o tm=true)∧o.wp x.P a W (fun a' W'=>∃ Y,K Y∧Conc x.W0 x.h0 x.N Y a' W') QQ:=by
 obtain ⟨ρ,hf,hW,hw⟩:=hC
 obtain ⟨hg,h⟩:=h
 refine ⟨fun tm=>by simp [Region.wanted,hg],?_⟩
 split at h
 ·rename_i c q
  split at h
  ·rename_i f H
   obtain ⟨vf,h,_,z⟩:=zaB (N:=x.N) hw h
   obtain ⟨vs,h,_,_,d⟩:=zaD (N:=x.N) hw h
   obtain ⟨fn,fs,cs,rfl⟩:=zlP h
   obtain ⟨hp,h⟩:=h
   unfold vfnW at h
   obtain ⟨M,R,Z,hM,g⟩:=h
   unfold Cw at Z
   obtain ⟨J,D⟩:=Z
   replace z:=z rfl ρ a hf
   replace d:=d rfl ρ a hf
   rw [SV.mapconc hp] at d
   have i:(execOp a.eval o).run x.P W=.ok (.enter fn (fs.toList ++ (vs.map (·.pv) ++ cs.toList)).toArray) W:=by
    obtain ⟨ag,ab,ak⟩:=c
    simp only at H d
    subst H
    have e1:ab.map a.eval=(vs.map (·.pv)).toArray:=Array.toList_inj.1 (by rw [uG,d])
    simp only [execOp,q]
    simp only [resolve,z,zak,zah,e1,Sem.run_bind,Deferred.ofValue,Sem.run_pure,Result.andThen_ok,invoke]
    rw [J]
    congr 3
    apply Array.toList_inj.1
    simp
   unfold Oper.wp
   rw [i]
   simp only [Oper.upon]
   refine (D W hW.sees).mono ?_
   rintro e W' ⟨v,h',rfl,hR,j,s,hs,O⟩
   exact ⟨_,g v h' s (fun b y h2=>by
    cases hh:h' b with
    | none=>exact (y hh).elim
    | some o=>exact x.W0.big b (wK hW.below.size (O b o hh h2))) hR,Conc.put_ (c:=true) hf (hW.wrote j (fun b j=>⟨(hM b j).1,Conc.own_new hW (hM b j).1 (hM b j).2⟩) s hs O) (wf_p hw) (wf_e hw) hd (SV.of_lt _ _) (by simp [SV.conc_of])⟩
  ·exact h.elim
 ·rename_i t n ps q
  obtain ⟨v,W',hr,g⟩:=zcM q hw hd hf hW h
  unfold Oper.wp
  rw [hr]
  exact g
 ·rename_i t ea ey q
  obtain ⟨O,h⟩:=h
  obtain ⟨va,h,_,hx⟩:=zaB (N:=x.N) hw h
  obtain ⟨m,h,al,hy⟩:=zaB (N:=x.N) hw h
  obtain ⟨ht,aa,ac,F,b,off,cur,e,rfl,j,ae,am,g⟩:=h
  replace hx:=hx rfl ρ a hf
  replace hy:=hy rfl ρ a hf
  have ah:x.W0.own b:=Conc.own_new hW (by rw [j];simp) ae
  have Q:m.cells.map (·.conc ρ)=m.cells.map (·.val):=SV.plain_cells aa ρ
  have X:(m.conc ρ).cells=(m.cells.map (·.val)).toArray:=by
   rw [← Q]
   rcases SV.cells_conc ρ m with h|⟨r,rfl⟩
   ·exact h
   ·exact absurd aa (by simp [SV.plain,zb7])
  have hr:=zcD (P:=x.P) (t:=t) (o:=off) (vs:=m.cells.map (·.val)) ht X (by simpa using F) (hW.sees _ _ j) (by simp [F];omega) (fun u hu=>by
   obtain ⟨c,H,rfl⟩:=List.mem_map.1 hu
   exact List.all_eq_true.1 ac c H)
  have i:(execOp a.eval o).run x.P W=.ok .skip (W.setRow b (zbG off (m.cells.map (·.val)) cur.toList).toArray):=by
   simp only [execOp,q,hx,hy,zak,zah]
   simp [Sem.run_bind,hr]
  unfold Oper.wp
  rw [i]
  have p:∀ k,k ≠ b→(W.setRow b (zbG off (m.cells.map (·.val)) cur.toList).toArray).heap[k]?=W.heap[k]?:=fun k g=>setRow_other W b k _ g
  refine ⟨_,g,ρ,by simpa [Act.put,O] using hf,hW.wrote (M:=fun k=>k=b) ⟨rfl,rfl,rfl,by simp [World.setRow],fun k _ g=>p k g⟩ (fun k g=>by subst g;exact ⟨by rw [j];simp,ah⟩) (fun k o g G=>by simp only [Hp.ins,if_neg G];exact g) (fun k o l=>?_) (fun k o y h2=>?_),hw⟩
  ·simp only [Hp.ins] at l
   split at l
   ·rename_i e';subst e';injection l with l;subst l;exact setRow_heap W _ _ _ _ _ (hW.sees _ _ j)
   ·rename_i G;rw [p k G];exact hW.sees k o l
  ·simp only [Hp.ins] at y
   split at y
   ·rename_i e';subst e';rw [j] at h2;cases h2
   ·rw [h2] at y;cases y
 ·rename_i fn fs cs q
  obtain ⟨us,h,_,_,w⟩:=zaD (N:=x.N) hw h
  obtain ⟨vs,h,_,_,d⟩:=zaD (N:=x.N) hw h
  obtain ⟨ai,aj,g⟩:=h
  replace w:=w rfl ρ a hf
  replace d:=d rfl ρ a hf
  rw [SV.mapconc ai] at w
  rw [SV.mapconc aj] at d
  have e1:fs.map a.eval=(us.map (·.pv)).toArray:=Array.toList_inj.1 (by rw [uG,w])
  have e2:cs.map a.eval=(vs.map (·.pv)).toArray:=Array.toList_inj.1 (by rw [uG,d])
  have i:(execOp a.eval o).run x.P W=.ok (.value (.func fn (us.map (·.pv)).toArray (vs.map (·.pv)).toArray)) W:=by
   simp only [execOp,q,e1,e2]
   simp [Sem.run_bind,Instr.makeFunc]
  unfold Oper.wp
  rw [i]
  exact ⟨_,g,Conc.put_ (c:=true) hf hW (wf_p hw) (wf_e hw) hd rfl (by simp)⟩
 ·exact h.elim
theorem zlR {d:Option Nat} {K:St→Prop} {a:Act} {W:World} (h:vpub st d K) (e:Conc x.W0 x.h0 x.N st a W):∃ b,K b∧Conc x.W0 x.h0 x.N b a W:=by
 unfold vpub onD at h
 split at h
 ·split at h
  ·split at h
   ·rename_i f
    obtain ⟨g,cap,h',i,c⟩:=e.pub f
    exact ⟨_,h g cap h' i,c⟩
   ·exact h.elim
  ·exact h.elim
 ·exact h.elim
theorem zlS {ops:List Oper} {K:St→Prop} {QQ:Exit→Act→World→Prop} (r:∀ c g i,K c→Conc x.W0 x.h0 x.N c g i→QQ .normal g i):∀ {bs:List Nat} {l:List Oper} {st:St} {a:Act} {W:World},zcZ x.N l=true→zlO x ops K bs l st→Conc x.W0 x.h0 x.N st a W →
  wpList x.P ops.toArray QQ l a W
 | [],l,st,a,W,k,h,n=>by
  have h:vops x.P ops l st K:=by cases l <;> exact h
  exact zc0 k r h n
 | b :: bs,[],st,a,W,k,h,n=>by
  match b,h with
  | 0,h=>exact h.elim
  | 1,h=>exact h.elim
  | b+2,h=>exact h.elim
 | b :: bs,o :: l,st,a,W,k,h,n=>by
  simp only [zcZ,jJ] at k
  have s:∀ u,o.dst=some u→u < x.N:=by
   intro u e
   have:=k.1
   rw [e] at this
   simpa using this
  have t:∀ {w:St→Prop},vop x.P ops st o w→(∀ c g i,w c→Conc x.W0 x.h0 x.N c g i→∃ j,zlO x ops K bs l j∧Conc x.W0 x.h0 x.N j g i)→wpList x.P ops.toArray QQ (o :: l) a W:=by
   intro w h y
   have:=zcY (Q:=QQ) s h n
   simp only [wpList]
   rcases this with ⟨p,q⟩|⟨p,c,f,d⟩
   ·rw [if_pos p]
    left
    refine Oper.wp_mono ?_ q
    rintro g i ⟨c,f,d⟩
    obtain ⟨j,f,m⟩:=y c g i f d
    exact zlS r k.2 f m
   ·rw [if_neg (by simp [p])]
    obtain ⟨j,f,m⟩:=y c _ W f d
    exact zlS r k.2 f m
  match b,h with
  | 0,h=>exact t h fun c g i f d=>⟨c,f,d⟩
  | 1,h =>
   obtain ⟨p,q⟩:=zlQ (QQ:=QQ) s h n
   simp only [wpList]
   rw [if_pos (p _)]
   left
   refine Oper.wp_mono ?_ q
   rintro g i ⟨c,f,d⟩
   exact zlS r k.2 f d
  | b+2,h=>exact t h fun c g i f d=>zlR f d
theorem zlT {id:Nat} {ops:List Oper} (n:List Nat) (d:zcZ x.N ops=true) (h:zlO x ops (fun b=>Q .normal b) n ops st):T x st (.region id ops.toArray false) Q:=by
 unfold T
 intro a W e
 exact wp_region_lit (zlS (fun b g i f c=>⟨b,f,c⟩) d h e)
theorem zlU {id:Nat} {ops:List Oper} {d:Code} (n:List Nat) (b:zcZ x.N ops=true) (h:zlO x ops (fun a=>T x a d Q) n ops st):T x st (.seq (.region id ops.toArray false) d) Q :=
 zc3 (zlT n b h)
def St.leF (h0:Hp) (st st':St):Prop:=leE st.e st'.e∧leP st.p st'.p∧st'.h.le st.h∧h0.le st'.h∧st'.wf=true
end
attribute [irreducible] zlN
section
variable {x:Cx} {st:St} {o:Oper} {l ops:List Oper} {bs:List Nat} {K:St→Prop} {KV:Value→Hp→Prop} {KH:Hp→Prop}
@[go_sem] theorem zlV:zlO x ops K [] l st=vops x.P ops l st K:=by cases l <;> rfl
@[go_sem] theorem zlW:zlO x ops K (1 :: bs) (o :: l) st=vopX x st o fun a=>zlO x ops K bs l a:=rfl
@[go_sem] theorem zlX:zlO x ops K (0 :: bs) (o :: l) st=vop x.P ops st o fun a=>zlO x ops K bs l a:=rfl
@[go_sem] theorem zlY:zlO x ops K (2 :: bs) (o :: l) st=vop x.P ops st o fun a=>vpub a o.dst fun a=>zlO x ops K bs l a:=rfl
@[go_sem] theorem zlZ {d:Option Nat}:vpub st d K=onD d fun t=>match look t st.e with
  | some (true,.c (.s r))=>(match look r st.p with
   | some (.row e b n xs)=>∀ a cap h',Pub st.h e b n xs a cap h'→K (st.sub r (.slice a n cap) h')
   | _=>False)
  | _=>False:=rfl
@[go_sem] theorem zl0 {d:Option Nat} {f:Operand} {a:Array Operand} {b:Array TypeId} {t:TypeId} {p:String} {c:Array Edge}:vopX x st ⟨d,.call ⟨.value f,a,b⟩,t,p,c,none⟩ K=getO st true f fun g=>zaC st true a.toList fun vs=>zlM x st g vs fun v h'=>K (St.mk (zb5 st.e d true (.of v)) st.p h' st.nx):=by
 unfold vopX;simp
@[go_sem] theorem zl1 {a y:Operand} {b t:TypeId} {p:String} {c:Array Edge}:vopX x st ⟨none,.store b a y,t,p,c,none⟩ K=getO st true a fun d=>getO st true y fun f=>zlN x st b d f fun h'=>K (St.mk st.e st.p h' st.nx):=by
 unfold vopX;simp
@[go_sem] theorem zl2 {d:Option Nat} {a:Fn} {b cs:Array Operand} {t:TypeId} {p:String} {f:Array Edge}:vopX x st ⟨d,.makeFunc a b cs,t,p,f,none⟩ K=zaC st true b.toList fun us=>zaC st true cs.toList fun vs=>(us.all (·.plain))=true∧(vs.all (·.plain))=true∧K (St.mk (zb5 st.e d true (.c (.v (.func a (us.map (·.pv)).toArray (vs.map (·.pv)).toArray)))) st.p st.h st.nx):=by
 unfold vopX;simp
@[go_sem] theorem zl3 {d:Option Nat} {f t:TypeId} {n:Nat} {a:List (Nat × Operand)} {p:String} {g:Array Edge}:vopX x st ⟨d,.buildSlice f n a.toArray,t,p,g,none⟩ K=zaC st true (a.map (·.2)) fun vs=>zcc x.P f fun e=>0 < szT x.P e∧zca x.P e fun z=>z.length=szT x.P e∧n * szT x.P e≤16777216∧a.length=n∧zcb (szT x.P e) 0 (a.map (·.1)) vs ∧
   ∀ b,st.h b=none→K (St.mk (zb5 st.e d true (.c (.v (.slice (some ⟨b,0,none⟩) n n)))) st.p (st.h.ins b (.cells (vs.flatMap fun x=>x.cells.map (·.val)).toArray e (0,0))) st.nx):=by
 unfold vopX;simp [zcl]
@[go_sem] theorem zl4 {f:FuncId} {a cs:Array Value} {vs:List SV}:zlM x st (.c (.v (.func (.func f) a cs))) vs KV=((vs.all (·.plain))=true∧vfnW x st f (a.toList ++ (vs.map (·.pv) ++ cs.toList)) KV):=rfl
def spl (o:Nat) (new cs:List Value):List Value:=zbG o new cs
theorem zl5 {t:TypeId} {b off:Nat} {u:Value} {cur:Array Value} {e:TypeId} (g:hasT x.P t=true) (i:szT x.P t=1) (a:SV.cells (.c (.v u))=[.v u]) (j:u.oneCell'=true) (k:st.h b=some (.cells cur e (0,0))) (d:x.h0 b=none∨x.W0.own b) (l:off+1≤cur.size)
  (f:KH (st.h.ins b (.cells (spl off [u] cur.toList).toArray e (0,0)))):zlN x st t (.c (.v (.pointer (some ⟨b,off,none⟩)))) (.c (.v u)) KH:=by
 unfold zlN
 refine ⟨g,rfl,by simp [a,SC.val,j],by simp [a,i],b,off,cur,e,rfl,k,d,by omega,?_⟩
 unfold spl at f
 simpa [a,SC.val] using f
theorem Hp.ins_same {h:Hp} {b:Nat} {o:Obj}:h.ins b o b=some o:=by simp [Hp.ins]
theorem Hp.ins_ins {h:Hp} {b:Nat} {o a:Obj}:(h.ins b o).ins b a=h.ins b a:=by
 funext i;simp only [Hp.ins];split <;> rfl
theorem Hp.ins_ne {h:Hp} {b i:Nat} {o:Obj} (a:i ≠ b):h.ins b o i=h i:=by simp [Hp.ins,a]
end
open Go Go.RowKit
theorem zl6 {h h':Hp} {a:Addr} {n:Nat} {l:List Value} (b:∀ o,h a.block=some o→h' a.block=some o) (e:h.lds (some a) n=some l):h'.lds (some a) n=some l:=by
 obtain ⟨d,h2⟩:=zac e
 refine zad d fun j v f=>?_
 have:=h2 j v f
 unfold Hp.cell at this ⊢
 have g:(a.add (0+j)).block=a.block:=by unfold Addr.add;split <;> rfl
 rw [g] at this ⊢
 split at this
 ·rename_i c _ _ i
  rw [b _ i]
  exact this
 ·cases this
class Foot (α:Type) [Enc α] where
 foot:α→List Nat
 own:Hp→α→Prop
 loc:∀ {h h':Hp} {x:α},Enc.ok h x→own h x→(∀ b ∈ foot x,∀ o,h b=some o→h' b=some o)→Enc.ok h' x∧own h' x
 dom:∀ {h:Hp} {x:α},own h x→∀ b ∈ foot x,h b ≠ none
def Sl.blkOf {α:Type} (s:Sl α):Nat:=match s.a with|some a=>a.block|none=>0
def Sl.own {α:Type} [Enc α] [Foot α] (h:Hp) (s:Sl α):Prop :=
 s.l ≠ []→(∃ g cur e,s.a=some ⟨g,0,none⟩∧h g=some (.cells cur e (0,0))∧cur.size=s.cap * Enc.size α)∧∀ x ∈ s.l,Foot.own h x
def Sl.foot {α:Type} [Enc α] [Foot α] (s:Sl α):List Nat:=match s.l with|[]=>[]|_ :: _=>s.blkOf :: s.l.flatMap Foot.foot
theorem Sl.foot_ne {α:Type} [Enc α] [Foot α] {s:Sl α} (h:s.l ≠ []):s.foot=s.blkOf :: s.l.flatMap Foot.foot:=by
 unfold Sl.foot
 split
 ·rename_i e;exact (h e).elim
 ·rfl
theorem Sl.foot_nil {α:Type} [Enc α] [Foot α] {s:Sl α} (h:s.l=[]):s.foot=[]:=by
 unfold Sl.foot;rw [h]
instance {α:Type} [Enc α] [Foot α]:Foot (Sl α) where
 foot:=Sl.foot
 own:=Sl.own
 loc {h h' s} hok hown hk:=by
  have hok:s.Ok h:=hok
  by_cases hl:s.l=[]
  ·exact ⟨(show Sl.Ok h' s from ⟨hok.1,hok.2.1,fun i x hx=>(by rw [hl] at hx;simp at hx),fun x hx=>(by rw [hl] at hx;cases hx),hok.2.2.2.2⟩),fun hne=>(hne hl).elim⟩
  ·obtain ⟨⟨g,cur,e,ha,hb,hsz⟩,hx⟩:=hown hl
   have hfoot:Sl.foot s=s.blkOf :: s.l.flatMap Foot.foot:=Sl.foot_ne hl
   have hbo:s.blkOf=g:=by unfold Sl.blkOf;rw [ha]
   have hg:∀ o,h g=some o→h' g=some o:=hk g (by show g ∈ Sl.foot s;rw [hfoot,hbo];exact qC ..)
   have hel:∀ x ∈ s.l,Enc.ok h' x∧Foot.own h' x:=fun x hm=>Foot.loc (hok.2.2.2.1 x hm) (hx x hm) fun b hb=>hk b (by
    show b ∈ Sl.foot s
    rw [hfoot];exact qg _ (List.mem_flatMap.2 ⟨x,hm,hb⟩))
   refine ⟨(show Sl.Ok h' s from ⟨hok.1,hok.2.1,fun i x hi=>?_,fun x hm=>(hel x hm).1,hok.2.2.2.2⟩),fun _=>⟨⟨g,cur,e,ha,hg _ hb,hsz⟩,fun x hm=>(hel x hm).2⟩⟩
   have:=hok.2.2.1 i x hi
   rw [ha] at this ⊢
   refine zl6 (fun o ho=>?_) this
   have hb:((⟨g,0,none⟩:Addr).add (i * Enc.size α)).block=g:=by unfold Addr.add;split <;> rfl
   rw [hb] at ho ⊢
   exact hg o ho
 dom {h s} hown b hb:=by
  by_cases hl:s.l=[]
  ·rw [Sl.foot_nil hl] at hb;cases hb
  ·obtain ⟨⟨g,cur,e,ha,hbk,hsz⟩,hx⟩:=hown hl
   rw [Sl.foot_ne hl] at hb
   rcases List.mem_cons.1 hb with rfl|hb
   ·have hbo:s.blkOf=g:=by unfold Sl.blkOf;rw [ha]
    rw [hbo,hbk];simp
   ·obtain ⟨x,hm,hb⟩:=List.mem_flatMap.1 hb
    exact Foot.dom (hx x hm) b hb
instance:Foot Int:=⟨fun _=>[],fun _ _=>True,fun H _ _=>⟨H,trivial⟩,fun _ b hb=>by cases hb⟩
def Mine {α:Type} [Enc α] [Foot α] (h h':Hp) (x:α):Prop:=Foot.own h' x∧(∀ b ∈ Foot.foot x,h b=none)∧(Foot.foot x).Nodup
theorem Mine.back {α:Type} [Enc α] [Foot α] {h0 h h':Hp} {x:α} (a:h0.le h) (H:Mine h h' x):Mine h0 h' x :=
 ⟨H.1,fun b c=>by
  cases d:h0 b with
  | none=>rfl
  | some o=>rw [← H.2.1 b c,a b o d],H.2.2⟩
theorem Mine.on {α:Type} [Enc α] [Foot α] {h h' h2:Hp} {x:α} (a:h'.le h2) (c:Enc.ok h' x) (H:Mine h h' x):Mine h h2 x :=
 ⟨(Foot.loc c H.1 fun b _ o d=>a b o d).2,H.2.1,H.2.2⟩
theorem Mine.flat {α:Type} [Enc α] [Foot α] {h h':Hp} {x:α} (a:Foot.foot x=[]) (d:Foot.own h' x):Mine h h' x:=⟨d,fun b c=>(by rw [a] at c;cases c),by rw [a];exact List.nodup_nil⟩
theorem Mine.nil {α:Type} [Enc α] [Foot α] {h h':Hp} {a:Option Addr} {c:Nat}:Mine h h' (⟨a,c,[]⟩:Sl α):=Mine.flat rfl fun h=>(h rfl).elim
def Mines {α:Type} [Enc α] [Foot α] (h h':Hp) (l:List α):Prop:=(∀ x ∈ l,Foot.own h' x)∧(∀ b ∈ l.flatMap Foot.foot,h b=none)∧(l.flatMap Foot.foot).Nodup
theorem Mines.nil {α:Type} [Enc α] [Foot α] {h h':Hp}:Mines h h' ([]:List α):=⟨fun x a=>(by cases a),fun b c=>(by cases c),List.nodup_nil⟩
theorem Mines.snoc {α:Type} [Enc α] [Foot α] {h h' h2:Hp} {l:List α} {x:α} (H:Mines h h' l) (i:∀ y ∈ l,Enc.ok h' y) (j:h'.le h2) (h0:h.le h') (f:Mine h' h2 x):Mines h h2 (l ++ [x]):=by
 have k:=f.back h0
 refine ⟨fun y d=>?_,fun b c=>?_,?_⟩
 ·rcases List.mem_append.1 d with d|d
  ·exact (Foot.loc (i y d) (H.1 y d) fun b _ o m=>j b o m).2
  ·rw [List.mem_singleton.1 d];exact f.1
 ·rw [jF,ye] at c
  rcases c with c|c
  ·exact H.2.1 b c
  ·rw [wV,uH,yJ] at c
   exact k.2.1 b c
 ·rw [jF,wV,uH,yJ]
  refine List.nodup_append.2 ⟨H.2.2,f.2.2,fun a g b c e=>?_⟩
  subst e
  obtain ⟨y,d,g⟩:=List.mem_flatMap.1 g
  exact Foot.dom (H.1 y d) a g (f.2.1 a c)
theorem Mines.flat {α:Type} [Enc α] [Foot α] {h h':Hp} {l:List α} (c:∀ x:α,Foot.foot x=[]) (d:∀ x:α,Foot.own h' x):Mines h h' l:=by
 have:l.flatMap (Foot.foot (α:=α))=[]:=by
  rw [Jv];exact fun x _=>c x
 exact ⟨fun x _=>d x,fun b a=>(by rw [this] at a;cases a),by rw [this];exact List.nodup_nil⟩
theorem Pub.mine {α:Type} [Enc α] [Foot α] {d h h':Hp} {e:TypeId} {l:List α} {n:Option Addr} {cap:Nat} (H:Pub h e (Enc.size α) l.length (l.flatMap Enc.enc) n cap h') (p:d.le h) (q:∀ x ∈ l,Enc.ok h x) (f:Mines d h l):Mine d h' (Sl.mk n cap l):=by
 have r:=H.le
 by_cases j:l=[]
 ·subst j;exact Mine.nil
 ·have k:l.length ≠ 0:=fun e=>j (List.length_eq_zero_iff.1 e)
  rcases H.2.2.2 with ⟨_,u,_⟩|⟨g,cur,rfl,m,rfl,t,_⟩
  ·exact (k u).elim
  ·have a:Foot.foot (Sl.mk (some ⟨g,0,none⟩) cap l)=g :: l.flatMap Foot.foot:=Sl.foot_ne (s:=Sl.mk (some ⟨g,0,none⟩) cap l) j
   refine ⟨fun _=>⟨⟨g,cur,e,rfl,by simp [Hp.ins],t⟩,fun x i=>(Foot.loc (q x i) (f.1 x i) fun b _ o w=>r b o w).2⟩,fun b c=>?_,?_⟩
   ·rw [a] at c
    rcases List.mem_cons.1 c with rfl|c
    ·cases z:d b with
     | none=>rfl
     | some o=>rw [p b o z] at m;cases m
    ·exact f.2.1 b c
   ·rw [a]
    refine List.nodup_cons.2 ⟨fun i=>?_,f.2.2⟩
    obtain ⟨y,D,F⟩:=List.mem_flatMap.1 i
    exact Foot.dom (f.1 y D) g F m
theorem zl7 {α:Type} [Enc α] [Foot α] {x:Cx} {st:St} {c:Code} {Q:Exit→St→Prop} (r:Nat) {e:TypeId} (l:List α) {d n:Nat} {xs:List Value} (j:look r st.p=some (.row e d n xs)) (f:d=Enc.size α) (k:n=l.length) (g:xs=l.flatMap Enc.enc) (m:0 < Enc.size α)
  (a:∀ x ∈ l,Enc.ok st.h x) (b:Hp) (i:b.le st.h) (o:Mines b st.h l) (h:∀ (s:Sl α) h',s.l=l→s.Ok h'→st.h.le h'→Mine b h' s→T x (st.sub r s.val h') c Q):T x st c Q:=by
 subst f k g
 refine zjO r j fun q cap h' H=>?_
 exact h ⟨q,cap,l⟩ h' rfl (H.sl m a) H.le (H.mine i a o)
open Go Go.RowKit
class Mk (α:Type) where
 put:α→Int→α
 cnt:α→Nat
def mkL {α:Type} [Mk α]:List α→Int→List α
 | [],_=>[]
 | x :: l,k=>Mk.put x k :: mkL l (k+Mk.cnt x)
def cntL {α:Type} [Mk α] (l:List α):Nat:=(l.map Mk.cnt).sum
instance {α:Type} [Mk α]:Mk (Sl α):=⟨fun s k=>⟨s.a,s.cap,mkL s.l k⟩,fun s=>cntL s.l⟩
instance:Mk Int:=⟨fun _ k=>k,fun _=>1⟩
section
variable {α:Type} [Mk α]
theorem zl8:cntL ([]:List α)=0:=rfl
theorem zl9 {x:α} {l:List α}:cntL (x :: l)=Mk.cnt x+cntL l:=by simp [cntL]
theorem zma {l m:List α}:cntL (l ++ m)=cntL l+cntL m:=by simp [cntL]
theorem zmb:∀ {l:List α} {k:Int},(mkL l k).length=l.length
 | [],_=>rfl
 | x :: l,k=>by simp [mkL,zmb]
theorem zmc:∀ {l m:List α} {k:Int},mkL (l ++ m) k=mkL l k ++ mkL m (k+cntL l)
 | [],m,k=>by simp [mkL,zl8]
 | x :: l,m,k=>by
  rw [List.cons_append,mkL,mkL,zmc,zl9,List.cons_append]
  congr 3
  omega
theorem zmd {l:List α} {k:Int} {i:Nat} (a:i < l.length):mkL (l.take (i+1)) k=mkL (l.take i) k ++ [Mk.put l[i] (k+cntL (l.take i))]:=by
 rw [qw a,zmc];rfl
theorem zme {l:List α} {i:Nat} (a:i < l.length):cntL (l.take (i+1))=cntL (l.take i)+Mk.cnt l[i]:=by
 rw [qw a,zma,zl9,zl8];omega
theorem zmf {l:List α} {i:Nat}:cntL (l.take i)≤cntL l:=by
 conv=>rhs;rw [← yk i l,zma]
 omega
def mkd (l:List α) (k:Int) (i:Nat):List α:=mkL (l.take i) k ++ l.drop i
theorem zmg {l:List α} {k:Int}:mkd l k 0=l:=by simp [mkd,mkL]
theorem zmh {l:List α} {k:Int} {i:Nat} (a:l.length≤i):mkd l k i=mkL l k:=by simp [mkd,qy a,Jp a]
theorem zmi {l:List α} {k:Int} {i:Nat}:(mkd l k i).length=l.length:=by
 simp only [mkd,jP,zmb,ww,ub];omega
theorem zmj {l:List α} {k:Int} {i:Nat} (a:i < l.length):(mkd l k i)[i]'(by rw [zmi];exact a)=l[i]:=by
 have b:(mkL (l.take i) k).length=i:=by rw [zmb,ww];omega
 simp only [mkd]
 rw [uC (by omega)]
 simp [b]
theorem zmk {l:List α} {k:Int} {i:Nat} (a:i < l.length):(mkd l k i).set i (Mk.put l[i] (k+cntL (l.take i)))=mkd l k (i+1):=by
 have b:(mkL (l.take i) k).length=i:=by rw [zmb,ww];omega
 simp only [mkd]
 rw [List.set_append_right i _ (by omega),b,Je,zmd a,JX a,List.set_cons_zero,yx]
 rfl
end
def rowL {α:Type} [Enc α] (l:List α) (spare:List Value):List Value:=l.flatMap Enc.enc ++ spare
theorem zml {α:Type} [Enc α] {l:List α} {a:List Value}:(rowL l a).length=l.length * Enc.size α+a.length:=by rw [rowL,jP,ziq Enc.len]
theorem zmm {α:Type} [Enc α] {l:List α} {a:List Value} {i:Nat} {x:α} (b:i < l.length):zbG (i * Enc.size α) (Enc.enc x) (rowL l a)=rowL (l.set i x) a:=by
 have c:((l.take i).flatMap Enc.enc).length=i * Enc.size α:=by rw [ziq Enc.len,ww,Ja (Nat.le_of_lt b)]
 have d:rowL l a=(l.take i).flatMap Enc.enc ++ (Enc.enc l[i] ++ ((l.drop (i+1)).flatMap Enc.enc ++ a)):=by
  have e:l=l.take i ++ l[i] :: l.drop (i+1):=by rw [← JX b,yk]
  have:=congrArg (fun z=>z.flatMap Enc.enc ++ a) e
  simp only [jF,wV,yx] at this
  exact this
 have f:rowL (l.set i x) a=(l.take i).flatMap Enc.enc ++ (Enc.enc x ++ ((l.drop (i+1)).flatMap Enc.enc ++ a)):=by
  rw [rowL,List.set_eq_take_append_cons_drop,if_pos b]
  simp
 rw [d,f,zbG,uP c,List.drop_append,c,Enc.len,Jp (by rw [c];omega),jG,Jy,List.drop_left' (Enc.len _)]
theorem zmn {o:Nat} {m:List Value} {v:Value} {xs:List Value} (b:o+m.length < xs.length):zbG (o+m.length) [v] (zbG o m xs)=zbG o (m ++ [v]) xs:=by
 have a:(xs.take o).length=o:=by rw [ww];omega
 simp only [zbG]
 rw [List.take_append,a,qy (by omega),Jy,uP rfl,List.drop_append,a,Jp (by omega),jG,jg,
  show o+m.length+1 - o=m.length+1 by omega,List.drop_append,Jp (by omega),jG,Jy,List.drop_drop,jP,jg]
 simp [Nat.add_assoc]
theorem zmo {o:Nat} {m:List Value} {v:Value} {xs:List Value} (a:o+m.length < xs.length):spl (o+m.length) [v] (spl o m xs)=spl o (m ++ [v]) xs:=zmn a
theorem zmp {o:Nat} {m xs:List Value} (h:o+m.length≤xs.length):(spl o m xs).length=xs.length:=zcF h
theorem zmq {α:Type} [Enc α] {h:Hp} {g cap:Nat} {e:TypeId} {l:List α} {a:List Value} (d:0 < Enc.size α) (n:h g=some (.cells (rowL l a).toArray e (0,0))) (o:l.length≤cap) (p:cap≤maxLen) (f:∀ x ∈ l,Enc.ok h x) :
  (Sl.mk (some ⟨g,0,none⟩) cap l).Ok h:=by
 refine ⟨o,fun _=>rfl,fun i x k=>?_,f,p⟩
 have s:i < l.length:=(List.getElem?_eq_some_iff.1 k).1
 refine zad (Enc.len x) fun j v m=>?_
 have b:j < Enc.size α:=by rw [← Enc.len x];exact (List.getElem?_eq_some_iff.1 m).1
 have c:(l.flatMap Enc.enc)[i * Enc.size α+j]?=some v:=by
  rw [zio Enc.len d]
  have q:(i * Enc.size α+j) / Enc.size α=i:=by rw [uV,Nat.add_mul_div_right _ _ d,Nat.div_eq_of_lt b,jb]
  have r:(i * Enc.size α+j) % Enc.size α=j:=by rw [uV,JY,uv b]
  rw [q,r,k]
  exact m
 rw [zir,jb,za4]
 simp only [Hp.cell,n,yG,qW,if_false,jb,List.getElem?_toArray,rowL]
 rw [wF (by exact (List.getElem?_eq_some_iff.1 c).1)]
 exact c
theorem zmr {α:Type} [Enc α] [Foot α] {h:Hp} {s:Sl α} (r:0 < Enc.size α) (d:s.Ok h) (t:Foot.own h s) (n:s.l ≠ []) :
  ∃ g e c,s.a=some ⟨g,0,none⟩∧h g=some (.cells (rowL s.l c).toArray e (0,0))∧s.l.length * Enc.size α+c.length=s.cap * Enc.size α:=by
 obtain ⟨⟨g,cur,e,o,p,q⟩,_⟩:=t n
 have b:=d.all r
 unfold Hp.ldL at b
 have i:s.l.length ≠ 0:=fun e=>n (List.length_eq_zero_iff.1 e)
 have b:(if s.l.length=0 then some [] else h.lds s.a (s.l.length * Enc.size α))=some (s.l.flatMap Enc.enc):=b
 rw [if_neg i,o] at b
 obtain ⟨u,h2⟩:=zac (show h.cellsAt ⟨g,0,none⟩ 0 _=some _ from b)
 have k:cur.toList.take (s.l.length * Enc.size α)=s.l.flatMap Enc.enc:=by
  apply List.ext_getElem?
  intro j
  by_cases m:j < s.l.length * Enc.size α
  ·rw [yF,if_pos m]
   have f:j < (s.l.flatMap Enc.enc).length:=by rw [u];exact m
   have:=h2 j _ (qX f)
   rw [za4] at this
   simp only [Hp.cell,p,yG,qW,if_false,jb] at this
   rw [qX f,← this,Array.getElem?_toList]
  ·rw [yF,if_neg m,uE (by omega)]
 have w:s.l.length * Enc.size α≤s.cap * Enc.size α:=wP _ d.1
 refine ⟨g,e,cur.toList.drop (s.l.length * Enc.size α),o,?_,?_⟩
 ·rw [p,rowL,← k,yk]
 ·rw [ub,uA,q];omega
open Go Go.RowKit
def mkB (k:Int):Bool:=Jx k 3 == 0
def zms:Nat→Nat→List UInt8→List UInt8
 | 0,_,acc=>acc
 | f+1,n,acc=>if n=0 then acc else zms f (n / 10) (UInt8.ofNat (48+n % 10) :: acc)
def mkT (k:Int):ByteArray:=⟨((109:UInt8) :: (if k≤0 then [48] else zms 64 k.toNat [])).toArray⟩
instance:Foot DCall:=⟨fun _=>[],fun _ _=>True,fun H _ _=>⟨H,trivial⟩,fun _ b hb=>by cases hb⟩
instance:Foot DPassage:=⟨fun _=>[],fun _ _=>True,fun H _ _=>⟨H,trivial⟩,fun _ b hb=>by cases hb⟩
instance:Foot DOption where
 foot c:=Foot.foot c.pas
 own h c:=Foot.own h c.pas
 loc {h h' c} hok hown hk:=by
  have hok:I64 c.start∧I64 c.arr∧I64 c.cost∧c.pas.Ok h:=hok
  have hown:Foot.own h c.pas:=hown
  obtain ⟨k0,w0⟩:=Foot.loc (x:=c.pas) (h':=h') (hok.2.2.2) (hown) fun b hb=>hk b hb
  exact ⟨⟨hok.1,hok.2.1,hok.2.2.1,k0⟩,w0⟩
 dom {h c} hown b hb:=by
  have hown:Foot.own h c.pas:=hown
  have hb:b ∈ Foot.foot c.pas:=hb
  exact Foot.dom hown b hb
instance:Foot DCrew where
 foot c:=Foot.foot c.moves
 own h c:=Foot.own h c.moves
 loc {h h' c} hok hown hk:=by
  have hok:I64 c.tugs∧I64 c.pilots∧I64 c.rest∧c.moves.Ok h:=hok
  have hown:Foot.own h c.moves:=hown
  obtain ⟨k0,w0⟩:=Foot.loc (x:=c.moves) (h':=h') (hok.2.2.2) (hown) fun b hb=>hk b hb
  exact ⟨⟨hok.1,hok.2.1,hok.2.2.1,k0⟩,w0⟩
 dom {h c} hown b hb:=by
  have hown:Foot.own h c.moves:=hown
  have hb:b ∈ Foot.foot c.moves:=hb
  exact Foot.dom hown b hb
theorem zmt (c:DCrew):Foot.foot c=Foot.foot c.moves:=rfl
theorem zmu {h:Hp} {c:DCrew}:Foot.own h c=(Foot.own h c.moves):=rfl
instance:Foot DPart:=⟨fun _=>[],fun _ _=>True,fun H _ _=>⟨H,trivial⟩,fun _ b hb=>by cases hb⟩
instance:Foot DTide where
 foot c:=Foot.foot c.parts
 own h c:=Foot.own h c.parts
 loc {h h' c} hok hown hk:=by
  have hok:I64 c.mean∧c.parts.Ok h:=hok
  have hown:Foot.own h c.parts:=hown
  obtain ⟨k0,w0⟩:=Foot.loc (x:=c.parts) (h':=h') (hok.2) (hown) fun b hb=>hk b hb
  exact ⟨⟨hok.1,k0⟩,w0⟩
 dom {h c} hown b hb:=by
  have hown:Foot.own h c.parts:=hown
  have hb:b ∈ Foot.foot c.parts:=hb
  exact Foot.dom hown b hb
theorem zmv (c:DTide):Foot.foot c=Foot.foot c.parts:=rfl
theorem zmw {h:Hp} {c:DTide}:Foot.own h c=(Foot.own h c.parts):=rfl
instance:Foot DSurge:=⟨fun _=>[],fun _ _=>True,fun H _ _=>⟨H,trivial⟩,fun _ b hb=>by cases hb⟩
instance:Foot DForecast where
 foot c:=Foot.foot c.tide ++ Foot.foot c.surges
 own h c:=Foot.own h c.tide∧Foot.own h c.surges
 loc {h h' c} hok hown hk:=by
  have hok:Enc.ok h c.tide∧c.surges.Ok h:=hok
  have hown:Foot.own h c.tide∧Foot.own h c.surges:=hown
  obtain ⟨k0,w0⟩:=Foot.loc (x:=c.tide) (h':=h') (hok.1) (hown.1) fun b hb=>hk b (yy _ hb)
  obtain ⟨k1,w1⟩:=Foot.loc (x:=c.surges) (h':=h') (hok.2) (hown.2) fun b hb=>hk b (yb _ hb)
  exact ⟨⟨k0,k1⟩,⟨w0,w1⟩⟩
 dom {h c} hown b hb:=by
  have hown:Foot.own h c.tide∧Foot.own h c.surges:=hown
  have hb:b ∈ Foot.foot c.tide ++ Foot.foot c.surges:=hb
  simp only [ye] at hb
  rcases hb with h0|h1
  ·exact Foot.dom (hown.1) b h0
  ·exact Foot.dom (hown.2) b h1
theorem zmx (c:DForecast):Foot.foot c=Foot.foot c.tide ++ Foot.foot c.surges:=rfl
theorem zmy {h:Hp} {c:DForecast}:Foot.own h c=(Foot.own h c.tide∧Foot.own h c.surges):=rfl
instance:Foot DPoint:=⟨fun _=>[],fun _ _=>True,fun H _ _=>⟨H,trivial⟩,fun _ b hb=>by cases hb⟩
instance:Foot DSegment:=⟨fun _=>[],fun _ _=>True,fun H _ _=>⟨H,trivial⟩,fun _ b hb=>by cases hb⟩
instance:Foot DChart where
 foot c:=Foot.foot c.points ++ Foot.foot c.segments
 own h c:=Foot.own h c.points∧Foot.own h c.segments
 loc {h h' c} hok hown hk:=by
  have hok:c.points.Ok h∧c.segments.Ok h:=hok
  have hown:Foot.own h c.points∧Foot.own h c.segments:=hown
  obtain ⟨k0,w0⟩:=Foot.loc (x:=c.points) (h':=h') (hok.1) (hown.1) fun b hb=>hk b (yy _ hb)
  obtain ⟨k1,w1⟩:=Foot.loc (x:=c.segments) (h':=h') (hok.2) (hown.2) fun b hb=>hk b (yb _ hb)
  exact ⟨⟨k0,k1⟩,⟨w0,w1⟩⟩
 dom {h c} hown b hb:=by
  have hown:Foot.own h c.points∧Foot.own h c.segments:=hown
  have hb:b ∈ Foot.foot c.points ++ Foot.foot c.segments:=hb
  simp only [ye] at hb
  rcases hb with h0|h1
  ·exact Foot.dom (hown.1) b h0
  ·exact Foot.dom (hown.2) b h1
theorem zmz (c:DChart):Foot.foot c=Foot.foot c.points ++ Foot.foot c.segments:=rfl
theorem zmA {h:Hp} {c:DChart}:Foot.own h c=(Foot.own h c.points∧Foot.own h c.segments):=rfl
instance:Foot DShip:=⟨fun _=>[],fun _ _=>True,fun H _ _=>⟨H,trivial⟩,fun _ b hb=>by cases hb⟩
instance:Foot DRegime:=⟨fun _=>[],fun _ _=>True,fun H _ _=>⟨H,trivial⟩,fun _ b hb=>by cases hb⟩
instance:Foot DHarbour where
 foot c:=Foot.foot c.forecast ++ Foot.foot c.chart ++ Foot.foot c.fleet ++ Foot.foot c.crew
 own h c:=Foot.own h c.forecast∧Foot.own h c.chart∧Foot.own h c.fleet∧Foot.own h c.crew
 loc {h h' c} hok hown hk:=by
  have hok:Enc.ok h c.forecast∧Enc.ok h c.chart∧c.fleet.Ok h∧Enc.ok h c.regime∧Enc.ok h c.crew:=hok
  have hown:Foot.own h c.forecast∧Foot.own h c.chart∧Foot.own h c.fleet∧Foot.own h c.crew:=hown
  obtain ⟨k0,w0⟩:=Foot.loc (x:=c.forecast) (h':=h') (hok.1) (hown.1) fun b hb=>hk b (yy _ (yy _ (yy _ hb)))
  obtain ⟨k1,w1⟩:=Foot.loc (x:=c.chart) (h':=h') (hok.2.1) (hown.2.1) fun b hb=>hk b (yy _ (yy _ (yb _ hb)))
  obtain ⟨k2,w2⟩:=Foot.loc (x:=c.fleet) (h':=h') (hok.2.2.1) (hown.2.2.1) fun b hb=>hk b (yy _ (yb _ hb))
  obtain ⟨k3,w3⟩:=Foot.loc (x:=c.crew) (h':=h') (hok.2.2.2.2) (hown.2.2.2) fun b hb=>hk b (yb _ hb)
  exact ⟨⟨k0,k1,k2,hok.2.2.2.1,k3⟩,⟨w0,w1,w2,w3⟩⟩
 dom {h c} hown b hb:=by
  have hown:Foot.own h c.forecast∧Foot.own h c.chart∧Foot.own h c.fleet∧Foot.own h c.crew:=hown
  have hb:b ∈ Foot.foot c.forecast ++ Foot.foot c.chart ++ Foot.foot c.fleet ++ Foot.foot c.crew:=hb
  simp only [ye] at hb
  rcases hb with ((h0|h1)|h2)|h3
  ·exact Foot.dom (hown.1) b h0
  ·exact Foot.dom (hown.2.1) b h1
  ·exact Foot.dom (hown.2.2.1) b h2
  ·exact Foot.dom (hown.2.2.2) b h3
theorem zmB (c:DHarbour):Foot.foot c=Foot.foot c.forecast ++ Foot.foot c.chart ++ Foot.foot c.fleet ++ Foot.foot c.crew:=rfl
theorem zmC {h:Hp} {c:DHarbour}:Foot.own h c=(Foot.own h c.forecast∧Foot.own h c.chart∧Foot.own h c.fleet∧Foot.own h c.crew):=rfl
instance:Foot DBranch where
 foot c:=Foot.foot c.plan
 own h c:=Foot.own h c.plan
 loc {h h' c} hok hown hk:=by
  have hok:I64 c.low∧I64 c.high∧c.plan.Ok h:=hok
  have hown:Foot.own h c.plan:=hown
  obtain ⟨k0,w0⟩:=Foot.loc (x:=c.plan) (h':=h') (hok.2.2) (hown) fun b hb=>hk b hb
  exact ⟨⟨hok.1,hok.2.1,k0⟩,w0⟩
 dom {h c} hown b hb:=by
  have hown:Foot.own h c.plan:=hown
  have hb:b ∈ Foot.foot c.plan:=hb
  exact Foot.dom hown b hb
instance:Foot DStrategy where
 foot c:=Foot.foot c.branches
 own h c:=Foot.own h c.branches
 loc {h h' c} hok hown hk:=by
  have hok:I64 c.minute∧c.branches.Ok h:=hok
  have hown:Foot.own h c.branches:=hown
  obtain ⟨k0,w0⟩:=Foot.loc (x:=c.branches) (h':=h') (hok.2) (hown) fun b hb=>hk b hb
  exact ⟨⟨hok.1,k0⟩,w0⟩
 dom {h c} hown b hb:=by
  have hown:Foot.own h c.branches:=hown
  have hb:b ∈ Foot.foot c.branches:=hb
  exact Foot.dom hown b hb
theorem zmD {h:Hp} {c:DStrategy}:Foot.own h c=(Foot.own h c.branches):=rfl
instance:Foot DWindow:=⟨fun _=>[],fun _ _=>True,fun H _ _=>⟨H,trivial⟩,fun _ b hb=>by cases hb⟩
instance:Foot DDuty:=⟨fun _=>[],fun _ _=>True,fun H _ _=>⟨H,trivial⟩,fun _ b hb=>by cases hb⟩
instance:Mk DCall:=⟨fun c k=>⟨k,(k+1),(k+2),(k+3),(k+4)⟩,fun c=>5⟩
instance:Mk DPassage:=⟨fun c k=>⟨k,(k+1),mkB (k+2),(k+3),(k+4)⟩,fun c=>5⟩
instance:Mk DOption:=⟨fun c k=>⟨k,(k+1),(k+2),Mk.put c.pas (k+3)⟩,fun c=>3+Mk.cnt c.pas⟩
instance:Mk DCrew:=⟨fun c k=>⟨k,(k+1),(k+2),Mk.put c.moves (k+3)⟩,fun c=>3+Mk.cnt c.moves⟩
instance:Mk DPart:=⟨fun c k=>⟨k,(k+1),(k+2)⟩,fun c=>3⟩
instance:Mk DTide:=⟨fun c k=>⟨k,Mk.put c.parts (k+1)⟩,fun c=>1+Mk.cnt c.parts⟩
instance:Mk DSurge:=⟨fun c k=>⟨k,(k+1),(k+2)⟩,fun c=>3⟩
instance:Mk DPoint:=⟨fun c k=>⟨mkT k,mkB (k+1)⟩,fun c=>2⟩
instance:Mk DSegment:=⟨fun c k=>⟨k,(k+1),(k+2),(k+3),mkB (k+4)⟩,fun c=>5⟩
instance:Mk DChart:=⟨fun c k=>⟨Mk.put c.points k,Mk.put c.segments (k+(Mk.cnt c.points:Nat))⟩,fun c=>Mk.cnt c.points+Mk.cnt c.segments⟩
instance:Mk DShip:=⟨fun c k=>⟨mkT k,(k+1),(k+2),(k+3),(k+4),mkB (k+5)⟩,fun c=>6⟩
instance:Mk DRegime:=⟨fun c k=>⟨k,mkB (k+1)⟩,fun c=>2⟩
instance:Mk DBranch:=⟨fun c k=>⟨k,(k+1),Mk.put c.plan (k+2)⟩,fun c=>2+Mk.cnt c.plan⟩
instance:Mk DStrategy:=⟨fun c k=>⟨k,Mk.put c.branches (k+1)⟩,fun c=>1+Mk.cnt c.branches⟩
instance:Mk DWindow:=⟨fun c k=>⟨k,(k+1)⟩,fun c=>2⟩
instance:Mk DDuty:=⟨fun c k=>⟨k,(k+1),(k+2),(k+3)⟩,fun c=>4⟩
def zmE (c:DCrew) (k:Int):DCrew:={ c with moves:=Mk.put c.moves k }
def zmF (c:DCrew):Nat:=Mk.cnt c.moves
def zmG (c:DTide) (k:Int):DTide:={ c with parts:=Mk.put c.parts k }
def zmH (c:DTide):Nat:=Mk.cnt c.parts
def zmI (c:DForecast) (k:Int):DForecast:={ c with tide:=zmG c.tide k,surges:=Mk.put c.surges (k+(zmH c.tide:Nat)) }
def zmJ (c:DForecast):Nat:=zmH c.tide+Mk.cnt c.surges
def zmK (c:DChart) (k:Int):DChart:={ c with points:=Mk.put c.points k,segments:=Mk.put c.segments (k+(Mk.cnt c.points:Nat)) }
def zmL (c:DChart):Nat:=Mk.cnt c.points+Mk.cnt c.segments
def zmM (c:DHarbour) (k:Int):DHarbour:={ c with forecast:=zmI c.forecast k,chart:=zmK c.chart (k+(zmJ c.forecast:Nat)),fleet:=Mk.put c.fleet (k+(zmJ c.forecast:Nat)+(zmL c.chart:Nat)),crew:=zmE c.crew (k+(zmJ c.forecast:Nat)+(zmL c.chart:Nat)+(Mk.cnt c.fleet:Nat)) }
def zmN (c:DHarbour):Nat:=zmJ c.forecast+zmL c.chart+Mk.cnt c.fleet+zmF c.crew
def zmO (c:DStrategy) (k:Int):DStrategy:={ c with branches:=Mk.put c.branches k }
def zmP (c:DStrategy):Nat:=Mk.cnt c.branches
open Go Go.RowKit
theorem fld {α:Type} [Enc α] {h:Hp} {s:Sl α} (H:s.Ok h) {i:Nat} (c:i < s.l.length) (f:Nat) {v:Value} (e:(Enc.enc s.l[i])[f]?=some v):h.lds (qe (fun x=>x.add f) (qe (fun x=>x.add (i * Enc.size α)) s.a)) 1=some [v]:=by
 have d:=H.at c
 obtain ⟨a,g⟩:=Option.isSome_iff_exists.1 (H.some c)
 rw [g] at d ⊢
 have h2:=(zac (show h.cellsAt (a.add (i * Enc.size α)) 0 _=some _ from d)).2 f v e
 refine zad rfl fun j u b=>?_
 cases j with
 | zero=>simp only [Jw,Option.some.injEq] at b;subst b;rw [jb] at h2;simpa [zir] using h2
 | succ j=>simp at b
theorem fld0 {α:Type} [Enc α] {h:Hp} {s:Sl α} (H:s.Ok h) {i:Nat} (b:i < s.l.length) {v:Value} (c:(Enc.enc s.l[i])[0]?=some v):h.lds (qe (fun x=>x) (qe (fun x=>x.add (i * Enc.size α)) s.a)) 1=some [v]:=by
 have:=fld H b 0 c
 have e:(fun x:Addr=>x.add 0)=fun x=>x:=by funext x;simp [Addr.add]
 rwa [e] at this
theorem fldS {α:Type} [Enc α] {h:Hp} {s:Sl α} (H:s.Ok h) {i:Nat} (b:i < s.l.length) (f:Nat) (c:f ≠ 0) {v:Value} (d:(Enc.enc s.l[i])[f]?=some v):h.lds (qe (fun x=>{ block:=x.block,off:=x.off+f }) (qe (fun x=>x.add (i * Enc.size α)) s.a)) 1=some [v]:=by
 have:=fld H b f d
 have e:(fun x:Addr=>x.add f)=fun x=>{ block:=x.block,off:=x.off+f }:=by funext x;simp [Addr.add,c]
 rwa [e] at this
theorem zmQ {α:Type} [Mk α]:∀ {l:List α} {k:Int} {i:Nat} (a:i < l.length),(mkL l k)[i]'(by rw [zmb];exact a)=Mk.put l[i] (k+cntL (l.take i))
 | x :: l,k,0,a=>by simp [mkL,cntL]
 | x :: l,k,i+1,a=>by
  simp only [mkL,List.getElem_cons_succ,List.take_succ_cons,zl9]
  rw [zmQ (by simpa using a)]
  congr 1
  omega
theorem zmR {α:Type} [Mk α] {l:List α} {k:Int} (a:mkL l k=l) {i:Nat} (b:i < l.length):l[i]=Mk.put l[i] (k+cntL (l.take i)):=by
 rw [← zmQ b];simp only [a]
class MkOk (α:Type) [Enc α] [Foot α] [Mk α]:Prop where
 foot:∀ (x:α) (k:Int),Foot.foot (Mk.put x k)=Foot.foot x
 cnt:∀ (x:α) (k:Int),Mk.cnt (Mk.put x k)=Mk.cnt x
 idem:∀ (x:α) (k:Int),Mk.put (Mk.put x k) k=Mk.put x k
section
variable {α:Type} [Enc α] [Foot α] [Mk α] [MkOk α]
theorem zmS:∀ {l:List α} {k:Int},(mkL l k).flatMap Foot.foot=l.flatMap Foot.foot
 | [],_=>rfl
 | x :: l,k=>by rw [mkL,wV,wV,MkOk.foot,zmS]
theorem zmT:∀ {l:List α} {k:Int},cntL (mkL l k)=cntL l
 | [],_=>rfl
 | x :: l,k=>by rw [mkL,zl9,zl9,MkOk.cnt,zmT]
theorem zmU:∀ {l:List α} {k:Int},mkL (mkL l k) k=mkL l k
 | [],_=>rfl
 | x :: l,k=>by rw [mkL,mkL,MkOk.idem,MkOk.cnt,zmU]
end
instance:MkOk Int:=⟨fun _ _=>rfl,fun _ _=>rfl,fun _ _=>rfl⟩
instance {α:Type} [Enc α] [Foot α] [Mk α] [MkOk α]:MkOk (Sl α):=⟨fun x k=>by
  by_cases hl:x.l=[]
  ·rw [show Foot.foot x=[] from Sl.foot_nil hl];exact Sl.foot_nil (by show mkL x.l k=[];rw [hl];rfl)
  ·have hl':(Mk.put x k).l ≠ []:=fun e=>hl (List.length_eq_zero_iff.1 (by rw [← zmb (k:=k),show mkL x.l k=[] from e];rfl))
   rw [show Foot.foot x=_ from Sl.foot_ne hl,show Foot.foot (Mk.put x k)=_ from Sl.foot_ne hl']
   show x.blkOf :: (mkL x.l k).flatMap Foot.foot=_
   rw [zmS],
 fun x k=>zmT,fun x k=>by show (⟨x.a,x.cap,mkL (mkL x.l k) k⟩:Sl α)=_;rw [zmU];rfl⟩
theorem zmV {α β:Type} {f:α→List β}:∀ {l:List α},(l.flatMap f).Nodup→∀ {i j:Nat} (d:i < l.length) (e:j < l.length),i ≠ j→∀ b,b ∈ f l[i]→b ∈ f l[j]→False
 | x :: l,a,0,0,_,_,g,_,_,_=>g rfl
 | x :: l,a,0,j+1,_,e,_,b,c,h2=>by
  rw [wV,yE] at a
  exact a.2.2 b c b (List.mem_flatMap.2 ⟨l[j]'(by simpa using e),qd _,h2⟩) rfl
 | x :: l,a,i+1,0,d,_,_,b,c,h2=>by
  rw [wV,yE] at a
  exact a.2.2 b h2 b (List.mem_flatMap.2 ⟨l[i]'(by simpa using d),qd _,c⟩) rfl
 | x :: l,a,i+1,j+1,d,e,g,b,c,h2=>by
  rw [wV,yE] at a
  exact zmV a.2.1 (by simpa using d) (by simpa using e) (by omega) b c h2
theorem zmW {α β:Type} {f:α→List β} {l:List α} (b:(l.flatMap f).Nodup) {x:α} (a:x ∈ l):(f x).Nodup:=by
 induction l with
 | nil=>cases a
 | cons y l c =>
  rw [wV,yE] at b
  rcases List.mem_cons.1 a with rfl|a
  ·exact b.1
  ·exact c b.2.1 a
theorem zmX {h:Hp} {g o:Nat} {e:TypeId} {xs:List Value} {v:Value} (b:h g=some (.cells xs.toArray e (0,0))) (c:xs[o]?=some v):h.lds (some ⟨g,o,none⟩) 1=some [v]:=by
 refine zad rfl fun j u a=>?_
 cases j with
 | zero =>
  simp only [Jw,Option.some.injEq] at a;subst a
  rw [za4]
  simp only [Hp.cell,b,yG,qW,if_false,List.getElem?_toArray]
  simpa using c
 | succ j=>simp at a
theorem zmY {α:Type} [Enc α] {l:List α} {a:List Value} {i f:Nat} {v:Value} (g:i < l.length) (c:(Enc.enc l[i])[f]?=some v):(rowL l a)[i * Enc.size α+f]?=some v:=by
 have d:f < Enc.size α:=by rw [← Enc.len l[i]];exact (List.getElem?_eq_some_iff.1 c).1
 have e:0 < Enc.size α:=by omega
 have b:(l.flatMap Enc.enc)[i * Enc.size α+f]?=some v:=by
  rw [zio Enc.len e]
  have h:(i * Enc.size α+f) / Enc.size α=i:=by rw [uV,Nat.add_mul_div_right _ _ e,Nat.div_eq_of_lt d,jb]
  have j:(i * Enc.size α+f) % Enc.size α=f:=by rw [uV,JY,uv d]
  rw [h,j,qX g]
  exact c
 rw [rowL,wF (List.getElem?_eq_some_iff.1 b).1]
 exact b
theorem zmZ {o j:Nat} {m xs:List Value} (b:o+m.length≤j) (c:o+m.length≤xs.length):(spl o m xs)[j]?=xs[j]?:=by
 have a:(xs.take o).length=o:=by rw [ww];omega
 simp only [spl,zbG]
 rw [uJ (by omega),a,uJ (by omega),uF]
 congr 1;omega
theorem zm0 {o:Nat} {m xs:List Value} {v:Value} (a:xs[o+m.length]?=some v):spl o (m ++ [v]) xs=spl o m xs:=by
 have b:o+m.length < xs.length:=(List.getElem?_eq_some_iff.1 a).1
 simp only [spl,zbG]
 rw [jP,jg,yx,JX (l:=xs) (i:=o+m.length) b]
 have:xs[o+m.length]=v:=(List.getElem?_eq_some_iff.1 a).2
 rw [this];rfl
theorem zm1 {α:Type} [Enc α] {l:List α} {a:List Value} {i:Nat} {x:α} (b:i < l.length):spl (i * Enc.size α) (Enc.enc x) (rowL l a)=rowL (l.set i x) a:=zmm b
theorem zm2 {α:Type} [Mk α] {l:List α} {k:Int} {x:α} (c:x ∈ mkL l k):∃ j,∃ b:j < l.length,x=Mk.put l[j] (k+cntL (l.take j)):=by
 obtain ⟨j,b,rfl⟩:=qL c
 have a:j < l.length:=by rwa [zmb] at b
 exact ⟨j,a,zmQ a⟩
instance:MkOk DCall:=⟨fun _ _=>rfl,fun _ _=>rfl,fun _ _=>rfl⟩
theorem zm3 {h:Hp} {s:Sl DPassage} (H:s.Ok h) {i:Nat} (b:i < s.l.length):h.lds (qe (fun x=>x) (qe (fun x=>x.add (i * 5)) s.a)) 1=some [.int .i64 s.l[i].ship]∧h.lds (qe (fun x=>{ block:=x.block,off:=x.off+1 }) (qe (fun x=>x.add (i * 5)) s.a)) 1=some [.int .i64 s.l[i].seg]∧h.lds (qe (fun x=>{ block:=x.block,off:=x.off+2 }) (qe (fun x=>x.add (i * 5)) s.a)) 1=some [.bool s.l[i].toward]∧h.lds (qe (fun x=>{ block:=x.block,off:=x.off+3 }) (qe (fun x=>x.add (i * 5)) s.a)) 1=some [.int .i64 s.l[i].start]∧h.lds (qe (fun x=>{ block:=x.block,off:=x.off+4 }) (qe (fun x=>x.add (i * 5)) s.a)) 1=some [.int .i64 s.l[i].fin]:=⟨fld0 H b rfl,fldS H b 1 (by decide) rfl,fldS H b 2 (by decide) rfl,fldS H b 3 (by decide) rfl,fldS H b 4 (by decide) rfl⟩
instance:MkOk DPassage:=⟨fun _ _=>rfl,fun _ _=>rfl,fun _ _=>rfl⟩
theorem zm4 {h:Hp} {s:Sl DOption} (H:s.Ok h) {i:Nat} (b:i < s.l.length):h.lds (qe (fun x=>x) (qe (fun x=>x.add (i * 4)) s.a)) 1=some [.int .i64 s.l[i].start]∧h.lds (qe (fun x=>{ block:=x.block,off:=x.off+1 }) (qe (fun x=>x.add (i * 4)) s.a)) 1=some [.int .i64 s.l[i].arr]∧h.lds (qe (fun x=>{ block:=x.block,off:=x.off+2 }) (qe (fun x=>x.add (i * 4)) s.a)) 1=some [.int .i64 s.l[i].cost]∧h.lds (qe (fun x=>{ block:=x.block,off:=x.off+3 }) (qe (fun x=>x.add (i * 4)) s.a)) 1=some [s.l[i].pas.val]:=⟨fld0 H b rfl,fldS H b 1 (by decide) rfl,fldS H b 2 (by decide) rfl,fldS H b 3 (by decide) rfl⟩
instance:MkOk DOption:=⟨fun x k=>MkOk.foot x.pas _,fun x k=>congrArg (3+·) (MkOk.cnt x.pas _),fun x k=>by
 show DOption.mk _ _ _ _=DOption.mk _ _ _ _
 congr 1
 exact MkOk.idem x.pas _⟩
instance:MkOk DCrew:=⟨fun x k=>MkOk.foot x.moves _,fun x k=>congrArg (3+·) (MkOk.cnt x.moves _),fun x k=>by
 show DCrew.mk _ _ _ _=DCrew.mk _ _ _ _
 congr 1
 exact MkOk.idem x.moves _⟩
instance:MkOk DPart:=⟨fun _ _=>rfl,fun _ _=>rfl,fun _ _=>rfl⟩
instance:MkOk DTide:=⟨fun x k=>MkOk.foot x.parts _,fun x k=>congrArg (1+·) (MkOk.cnt x.parts _),fun x k=>by
 show DTide.mk _ _=DTide.mk _ _
 congr 1
 exact MkOk.idem x.parts _⟩
theorem zm5 {h:Hp} {s:Sl DSurge} (H:s.Ok h) {i:Nat} (b:i < s.l.length):h.lds (qe (fun x=>x) (qe (fun x=>x.add (i * 3)) s.a)) 1=some [.int .i64 s.l[i].src]∧h.lds (qe (fun x=>{ block:=x.block,off:=x.off+1 }) (qe (fun x=>x.add (i * 3)) s.a)) 1=some [.int .i64 s.l[i].low]∧h.lds (qe (fun x=>{ block:=x.block,off:=x.off+2 }) (qe (fun x=>x.add (i * 3)) s.a)) 1=some [.int .i64 s.l[i].high]:=⟨fld0 H b rfl,fldS H b 1 (by decide) rfl,fldS H b 2 (by decide) rfl⟩
instance:MkOk DSurge:=⟨fun _ _=>rfl,fun _ _=>rfl,fun _ _=>rfl⟩
theorem zm6 {h:Hp} {s:Sl DPoint} (H:s.Ok h) {i:Nat} (b:i < s.l.length):h.lds (qe (fun x=>x) (qe (fun x=>x.add (i * 2)) s.a)) 1=some [.string s.l[i].name]∧h.lds (qe (fun x=>{ block:=x.block,off:=x.off+1 }) (qe (fun x=>x.add (i * 2)) s.a)) 1=some [.bool s.l[i].wait]:=⟨fld0 H b rfl,fldS H b 1 (by decide) rfl⟩
instance:MkOk DPoint:=⟨fun _ _=>rfl,fun _ _=>rfl,fun _ _=>rfl⟩
theorem zm7 {h:Hp} {s:Sl DSegment} (H:s.Ok h) {i:Nat} (c:i < s.l.length):h.lds (qe (fun x=>x) (qe (fun x=>x.add (i * 5)) s.a)) 1=some [.int .i64 s.l[i].a]∧h.lds (qe (fun x=>{ block:=x.block,off:=x.off+1 }) (qe (fun x=>x.add (i * 5)) s.a)) 1=some [.int .i64 s.l[i].b]∧h.lds (qe (fun x=>{ block:=x.block,off:=x.off+2 }) (qe (fun x=>x.add (i * 5)) s.a)) 1=some [.int .i64 s.l[i].depth]∧h.lds (qe (fun x=>{ block:=x.block,off:=x.off+3 }) (qe (fun x=>x.add (i * 5)) s.a)) 1=some [.int .i64 s.l[i].minutes]∧h.lds (qe (fun x=>{ block:=x.block,off:=x.off+4 }) (qe (fun x=>x.add (i * 5)) s.a)) 1=some [.bool s.l[i].meet]:=⟨fld0 H c rfl,fldS H c 1 (by decide) rfl,fldS H c 2 (by decide) rfl,fldS H c 3 (by decide) rfl,fldS H c 4 (by decide) rfl⟩
instance:MkOk DSegment:=⟨fun _ _=>rfl,fun _ _=>rfl,fun _ _=>rfl⟩
theorem zm8 {h:Hp} {s:Sl DShip} (H:s.Ok h) {i:Nat} (b:i < s.l.length):h.lds (qe (fun x=>x) (qe (fun x=>x.add (i * 6)) s.a)) 1=some [.string s.l[i].name]∧h.lds (qe (fun x=>{ block:=x.block,off:=x.off+1 }) (qe (fun x=>x.add (i * 6)) s.a)) 1=some [.int .i64 s.l[i].length]∧h.lds (qe (fun x=>{ block:=x.block,off:=x.off+2 }) (qe (fun x=>x.add (i * 6)) s.a)) 1=some [.int .i64 s.l[i].draught]∧h.lds (qe (fun x=>{ block:=x.block,off:=x.off+3 }) (qe (fun x=>x.add (i * 6)) s.a)) 1=some [.int .i64 s.l[i].line]∧h.lds (qe (fun x=>{ block:=x.block,off:=x.off+4 }) (qe (fun x=>x.add (i * 6)) s.a)) 1=some [.int .i64 s.l[i].tugs]∧h.lds (qe (fun x=>{ block:=x.block,off:=x.off+5 }) (qe (fun x=>x.add (i * 6)) s.a)) 1=some [.bool s.l[i].slow]:=⟨fld0 H b rfl,fldS H b 1 (by decide) rfl,fldS H b 2 (by decide) rfl,fldS H b 3 (by decide) rfl,fldS H b 4 (by decide) rfl,fldS H b 5 (by decide) rfl⟩
instance:MkOk DShip:=⟨fun _ _=>rfl,fun _ _=>rfl,fun _ _=>rfl⟩
instance:MkOk DRegime:=⟨fun _ _=>rfl,fun _ _=>rfl,fun _ _=>rfl⟩
theorem zm9 {h:Hp} {s:Sl DBranch} (H:s.Ok h) {i:Nat} (b:i < s.l.length):h.lds (qe (fun x=>x) (qe (fun x=>x.add (i * 3)) s.a)) 1=some [.int .i64 s.l[i].low]∧h.lds (qe (fun x=>{ block:=x.block,off:=x.off+1 }) (qe (fun x=>x.add (i * 3)) s.a)) 1=some [.int .i64 s.l[i].high]∧h.lds (qe (fun x=>{ block:=x.block,off:=x.off+2 }) (qe (fun x=>x.add (i * 3)) s.a)) 1=some [s.l[i].plan.val]:=⟨fld0 H b rfl,fldS H b 1 (by decide) rfl,fldS H b 2 (by decide) rfl⟩
instance:MkOk DBranch:=⟨fun x k=>MkOk.foot x.plan _,fun x k=>congrArg (2+·) (MkOk.cnt x.plan _),fun x k=>by
 show DBranch.mk _ _ _=DBranch.mk _ _ _
 congr 1
 exact MkOk.idem x.plan _⟩
instance:MkOk DStrategy:=⟨fun x k=>MkOk.foot x.branches _,fun x k=>congrArg (1+·) (MkOk.cnt x.branches _),fun x k=>by
 show DStrategy.mk _ _=DStrategy.mk _ _
 congr 1
 exact MkOk.idem x.branches _⟩
theorem zna {h:Hp} {s:Sl DWindow} (H:s.Ok h) {i:Nat} (b:i < s.l.length):h.lds (qe (fun x=>x) (qe (fun x=>x.add (i * 2)) s.a)) 1=some [.int .i64 s.l[i].src]∧h.lds (qe (fun x=>{ block:=x.block,off:=x.off+1 }) (qe (fun x=>x.add (i * 2)) s.a)) 1=some [.int .i64 s.l[i].dst]:=⟨fld0 H b rfl,fldS H b 1 (by decide) rfl⟩
instance:MkOk DWindow:=⟨fun _ _=>rfl,fun _ _=>rfl,fun _ _=>rfl⟩
instance:MkOk DDuty:=⟨fun _ _=>rfl,fun _ _=>rfl,fun _ _=>rfl⟩
open Go Go.RowKit
def News (h h':Hp) (f:List Nat):Prop:=(∀ b ∈ f,h b=none∧h' b ≠ none)∧f.Nodup
theorem News.append {h d h2:Hp} {f g:List Nat} (H:News h d f) (j:h.le d) (k:d.le h2) (K:News d h2 g):News h h2 (f ++ g):=by
 refine ⟨fun b c=>?_,List.nodup_append.2 ⟨H.2,K.2,fun a l b c e=>?_⟩⟩
 ·rcases List.mem_append.1 c with c|c
  ·refine ⟨(H.1 b c).1,?_⟩
   cases i:d b with
   | none=>exact ((H.1 b c).2 i).elim
   | some o=>rw [k b o i];simp
  ·refine ⟨?_,(K.1 b c).2⟩
   cases i:h b with
   | none=>rfl
   | some o=>rw [← (K.1 b c).1,j b o i]
 ·subst e;exact (H.1 a l).2 (K.1 a c).1
theorem Mine.news {α:Type} [Enc α] [Foot α] {h h':Hp} {x:α} (H:Mine h h' x):News h h' (Foot.foot x):=⟨fun b a=>⟨H.2.1 b a,Foot.dom H.1 b a⟩,H.2.2⟩
theorem News.mine {α:Type} [Enc α] [Foot α] {h h':Hp} {x:α} (a:Foot.own h' x) (H:News h h' (Foot.foot x)):Mine h h' x:=⟨a,fun b c=>(H.1 b c).1,H.2⟩
theorem ok_keep {α:Type} [Enc α] [Foot α] {h h':Hp} {x:α} {M:Nat→Prop} (c:Enc.ok h x) (a:Foot.own h x) (d:∀ b ∈ Foot.foot x,¬ M b) (e:∀ b o,h b=some o→¬ M b→h' b=some o):Enc.ok h' x∧Foot.own h' x :=
 Foot.loc c a fun b f o g=>e b o g (d b f)
open Go Go.RowKit
def rn:List Nat→Nat→Nat
 | [],_=>0
 | a :: _,0=>a
 | _ :: l,n+1=>rn l n
def SC.ren (l:List Nat):SC→SC
 | .v x=>.v x
 | .p r o=>.p (rn l r) o
 | .s r=>.s (rn l r)
def SV.ren (l:List Nat):SV→SV
 | .c x=>.c (x.ren l)
 | .g cs=>.g (cs.map (·.ren l))
def renE (l:List Nat):Env→Env
 | []=>[]
 | (t,c,sv) :: e=>(t,c,sv.ren l) :: renE l e
def PB.ren (l:List Nat):PB→PB
 | .box ty cs=>.box ty (cs.map (·.ren l))
 | .row e sz n xs=>.row e sz n xs
def renP (l:List Nat):List (Nat × PB)→List (Nat × PB)
 | []=>[]
 | (r,b) :: p=>(rn l r,b.ren l) :: renP l p
def znb (n:Nat):List (Nat × PB)→Bool
 | []=>true
 | (r,_) :: p=>decide (r < n) && znb n p
def St.leG (l:List Nat) (h0:Hp) (st st':St):Prop:=leE st.e (renE l st'.e)∧leP st.p (renP l st'.p)∧st'.h.le st.h∧h0.le st'.h∧st'.wf=true∧l.Nodup∧znb l.length st'.p=true
section
variable {l:List Nat} {ρ:Rho}
theorem SC.ren_conc (x:SC):(x.ren l).conc ρ=x.conc (fun r=>ρ (rn l r)):=by cases x <;> rfl
theorem SV.ren_conc (x:SV):(x.ren l).conc ρ=x.conc (fun r=>ρ (rn l r)):=by
 cases x with
 | c x=>exact SC.ren_conc x
 | g cs=>simp only [SV.ren,zal,yj];congr 2;exact wb fun x _=>SC.ren_conc x
theorem znc {t:Nat} {c:Bool} {sv:SV}:∀ {e:Env},look t e=some (c,sv)→look t (renE l e)=some (c,sv.ren l)
 | [],h=>by cases h
 | (k,d,b) :: e,h=>by
  simp only [renE,look] at h ⊢
  split at h
  ·rename_i a;rw [if_pos a];simp only [Option.some.injEq,Prod.mk.injEq] at h;rw [h.1,h.2]
  ·rename_i a;rw [if_neg a];exact znc h
theorem znd:∀ {l:List Nat} {r:Nat},r < l.length→l[r]?=some (rn l r)
 | [],r,h=>by simp at h
 | a :: l,0,_=>rfl
 | a :: l,r+1,h=>by simpa [rn] using znd (l:=l) (r:=r) (by simpa using h)
theorem zne (e:l.Nodup) {r a:Nat} (b:r < l.length) (c:a < l.length) (h:rn l r=rn l a):r=a:=by
 have d:=znd b
 have h2:=znd c
 rw [h,← h2] at d
 exact (List.getElem?_inj b e).1 d
theorem znf (d:l.Nodup) {r:Nat} {b:PB}:∀ {p:List (Nat × PB)},znb l.length p=true→look r p=some b→r < l.length∧look (rn l r) (renP l p)=some (b.ren l)
 | [],_,h=>by cases h
 | (k,g) :: p,a,h=>by
  simp only [znb,jJ,JD] at a
  simp only [renP,look] at h ⊢
  split at h
  ·rename_i c;subst c;simp only [Option.some.injEq] at h;rw [if_pos rfl,h];exact ⟨a.1,rfl⟩
  ·rename_i c
   obtain ⟨f,h2⟩:=znf d a.2 h
   rw [if_neg (fun e=>c (zne d a.1 f e))]
   exact ⟨f,h2⟩
theorem PB.ok_ren {W:World} {r:Nat} {b:PB} (h:(b.ren l).ok 0 ρ (rn l r) W):b.ok 0 (fun r=>ρ (rn l r)) r W:=by
 cases b with
 | box ty cs =>
  obtain ⟨g,a,h2,c⟩:=h
  refine ⟨g,a,h2,?_⟩
  rw [c,yj]
  congr 3
  exact wb fun x _=>SC.ren_conc x
 | row=>exact h
theorem Conc.weakenG {W0:Base} {h0:Hp} {N:Nat} {st st':St} {a:Act} {W:World} (h:st.leG l h0 st') (u:Conc W0 h0 N st a W):Conc W0 h0 N st' a W:=by
 obtain ⟨w,h2,k,x,y,n,z⟩:=h
 obtain ⟨ρ,hf,hW,hw⟩:=u
 have f:∀ r b,look r st'.p=some b→r < l.length∧look (rn l r) st.p=some (b.ren l):=fun r b d=>by
  obtain ⟨D,F⟩:=znf n z d
  exact ⟨D,zdb h2 _ _ F⟩
 refine ⟨fun r=>ρ (rn l r),⟨hf.1,hf.2.1,fun t c sv G=>?_⟩,?_,y⟩
 ·rw [hf.2.2 t c _ (zda w t _ (znc G)),SV.ren_conc]
 ·refine ⟨hW.below,fun b o i=>hW.sees b o (k b o i),fun b o i _=>x b o i,fun b o i H=>hW.new b o (k b o i) H,fun r b g d e=>?_,fun r b d=>?_,fun r b g d e=>?_,fun r b q s g d j e m=>?_⟩
  ·exact hW.own (rn l r) _ g (f r b d).2 e
  ·exact PB.ok_ren (hW.priv _ _ (f r b d).2)
  ·cases J:st'.h g with
   | none=>rfl
   | some o=>have:=hW.apart (rn l r) _ g (f r b d).2 e;rw [k g o J] at this;cases this
  ·exact zne n (f r b d).1 (f q s j).1 (hW.distinct _ _ _ _ g (f r b d).2 (f q s j).2 e m)
end
section
variable {x:Cx} {st:St} {Q:Exit→St→Prop}
theorem zng {ι:Type} {c:Code} (S:ι→St) (ok:ι→Prop) (m:ι→Nat) (f:ι) (h0:ok f) (l0:List Nat) (b:st.leG l0 x.h0 (S f))
  (p:∀ i,ok i→T x (S i) c (zc1 (fun st'=>∃ j l,ok j∧m j < m i∧st'.leG l x.h0 (S j)) Q)):T x st (.loop c) Q:=by
 unfold T at *
 intro a W g
 refine zdd (fun i h k=>ok i∧Conc x.W0 x.h0 x.N (S i) h k) m ?_ f a W ⟨h0,g.weakenG b⟩
 rintro i a W ⟨q,g⟩
 refine Code.wp_mono ?_ (p i q a W g)
 rintro e h k ⟨st',n,d⟩
 cases e with
 | normal =>
  obtain ⟨j,l,r,o,b⟩:=n
  exact ⟨j,o,r,d.weakenG b⟩
 | _=>exact ⟨st',n,d⟩
end
section
variable {l:List Nat} {r o n t a:Nat} {c:Bool} {sv:SV} {e:Env} {p:List (Nat × PB)} {b:PB} {x:SC} {cs:List SC} {h0:Hp} {st st':St}
@[go_sem] theorem znh:st.leG l h0 st'=(leE st.e (renE l st'.e)∧leP st.p (renP l st'.p)∧st'.h.le st.h∧h0.le st'.h∧st'.wf=true∧l.Nodup∧znb l.length st'.p=true):=rfl
@[go_sem] theorem zni:st.leF h0 st'=(leE st.e st'.e∧leP st.p st'.p∧st'.h.le st.h∧h0.le st'.h∧st'.wf=true):=rfl
@[go_sem] theorem znj:rn (a :: l) 0=a:=rfl
@[go_sem] theorem znk:rn (a :: l) (n+1)=rn l n:=rfl
@[go_sem] theorem znl:renE l []=[]:=rfl
@[go_sem] theorem znm:renE l ((t,c,sv) :: e)=(t,c,sv.ren l) :: renE l e:=rfl
@[go_sem] theorem znn:renP l []=[]:=rfl
@[go_sem] theorem zno:renP l ((r,b) :: p)=(rn l r,b.ren l) :: renP l p:=rfl
@[go_sem] theorem znp:SV.ren l (.c x)=.c (x.ren l):=rfl
@[go_sem] theorem znq:SV.ren l (.g cs)=.g (cs.map (·.ren l)):=rfl
@[go_sem] theorem znr {y:Value}:SC.ren l (.v y)=.v y:=rfl
@[go_sem] theorem zns:SC.ren l (.s r)=.s (rn l r):=rfl
@[go_sem] theorem znt:SC.ren l (.p r o)=.p (rn l r) o:=rfl
@[go_sem] theorem znu {ty:TypeId}:PB.ren l (.box ty cs)=.box ty (cs.map (·.ren l)):=rfl
@[go_sem] theorem znv {e:TypeId} {a n:Nat} {xs:List Value}:PB.ren l (.row e a n xs)=.row e a n xs:=rfl
@[go_sem] theorem znw:znb n []=true:=rfl
@[go_sem] theorem znx:znb n ((r,b) :: p)=(decide (r < n) && znb n p):=rfl
@[go_sem] theorem zny:([]:List Nat).Nodup=True:=eq_true List.nodup_nil
@[go_sem] theorem znz:[a].Nodup=True:=eq_true (by simp)
@[go_sem] theorem znA:(a :: l).Nodup=(a ∉ l∧l.Nodup):=by simp
@[go_sem] theorem znB {h:Hp}:h.le h=True:=eq_true (Hp.le_refl h)
@[go_sem] theorem znC:([]:List Nat).length=0:=rfl
@[go_sem] theorem znD:(a :: l).length=l.length+1:=rfl
end
end Go.SL
