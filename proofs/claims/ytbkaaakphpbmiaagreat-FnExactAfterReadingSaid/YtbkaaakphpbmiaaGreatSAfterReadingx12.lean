/- Plain theorems about the model. -/
import Derived.Test.YtbkaaakphpbmiaaGreatSAfterReadingx10
set_option linter.unusedVariables false
set_option linter.unusedSimpArgs false
set_option maxRecDepth 4000
open Nat renaming reduceAdd → jq, reduceMul → jj, reduceBEq → jy, reduceLeDiff → jv, reduceLT → jk, reduceEqDiff → jx
open Bool renaming or_eq_false_iff → jp, or_eq_true → jQ, and_eq_true → jJ
open Int renaming toNat_natCast → jW, natCast_nonneg → jY
namespace Go.SL
open Go Go.RowKit
def RowAt {α:Type} [Enc α] (e:TypeId) (h:Hp) (s:Sl α):Prop :=
 s.l.length≤s.cap∧s.cap≤maxLen∧((s.a=none∧s.l=[]∧s.cap=0)∨∃ g cur,s.a=some ⟨g,0,none⟩∧h g=some (.cells cur e (0,0))∧cur.size=s.cap * Enc.size α∧cur.toList.take (s.l.length * Enc.size α)=s.l.flatMap Enc.enc)
def znC {α:Type} (h:Hp) (s:Sl α):Hp:=match s.a with|some a=>h.del a.block|none=>h
section
variable {α:Type} [Enc α]
theorem RowAt.ok {e:TypeId} {h:Hp} {s:Sl α} (hp:0 < Enc.size α) (H:RowAt e h s) (hok:∀ x ∈ s.l,Enc.ok h x):s.Ok h:=by
 obtain ⟨h1,h2,⟨ha,hl,hc⟩|⟨g,cur,ha,hb,hsz,htk⟩⟩:=H
 ·refine ⟨h1,fun hne=>(hne hl).elim,fun i x hx=>by rw [hl] at hx;simp at hx,hok,h2⟩
 ·refine ⟨h1,fun _=>by rw [ha];rfl,fun i x hx=>?_,hok,h2⟩
  have hi:i < s.l.length:=(List.getElem?_eq_some_iff.1 hx).1
  rw [ha]
  refine zad (Enc.len x) fun j v hj=>?_
  have hjl:j < Enc.size α:=by rw [← Enc.len x];exact (List.getElem?_eq_some_iff.1 hj).1
  have hfl:(s.l.flatMap Enc.enc)[i * Enc.size α+j]?=some v:=by
   rw [zio Enc.len hp]
   have e1:(i * Enc.size α+j) / Enc.size α=i:=by rw [Nat.add_comm,Nat.add_mul_div_right _ _ hp,Nat.div_eq_of_lt hjl,Nat.zero_add]
   have e2:(i * Enc.size α+j) % Enc.size α=j:=by rw [Nat.add_comm,Nat.add_mul_mod_self_right,Nat.mod_eq_of_lt hjl]
   rw [e1,e2,hx]
   exact hj
  have hlt:i * Enc.size α+j < s.l.length * Enc.size α:=by
   have:(i+1) * Enc.size α≤s.l.length * Enc.size α:=Nat.mul_le_mul_right _ hi
   rw [Nat.add_mul,Nat.one_mul] at this
   omega
  rw [← htk,List.getElem?_take,if_pos hlt] at hfl
  simp only [Option.map_some]
  rw [zir,Nat.zero_add]
  have e3:(Addr.add ⟨g,0,none⟩ (i * Enc.size α+j))=⟨g,i * Enc.size α+j,none⟩:=by rw [za4];simp
  rw [e3]
  simp only [Hp.cell,hb,Option.isSome_none,Bool.false_eq_true,if_false]
  simpa using hfl
theorem RowAt.keep {e:TypeId} {h h':Hp} {s:Sl α} (H:RowAt e h s) (hk:∀ g,s.a=some ⟨g,0,none⟩→h' g=h g):RowAt e h' s:=by
 obtain ⟨h1,h2,H|⟨g,cur,ha,hb,hsz,htk⟩⟩:=H
 ·exact ⟨h1,h2,.inl H⟩
 ·exact ⟨h1,h2,.inr ⟨g,cur,ha,by rw [hk g ha];exact hb,hsz,htk⟩⟩
theorem Pub.row {h h':Hp} {e:TypeId} {l:List α} {ad:Option Addr} {cap:Nat} (H:Pub h e (Enc.size α) l.length (l.flatMap Enc.enc) ad cap h'):RowAt e h' (Sl.mk ad cap l)∧(∀ g,ad=some ⟨g,0,none⟩→h g=none)∧(∀ k,(∀ g,ad=some ⟨g,0,none⟩→k ≠ g)→h' k=h k):=by
 obtain ⟨h1,h2,h3,⟨ha,hn,hc,rfl⟩|⟨g,cur,rfl,hg,rfl,hsz,htk⟩⟩:=H
 ·exact ⟨⟨h2,h3,.inl ⟨ha,List.length_eq_zero_iff.1 hn,hc⟩⟩,fun g e=>(by rw [ha] at e;cases e),fun k _=>rfl⟩
 ·refine ⟨⟨h2,h3,.inr ⟨g,cur,rfl,Hp.ins_same,hsz,htk⟩⟩,fun g' e=>by cases e;exact hg,fun k hk=>Hp.ins_ne (hk g rfl)⟩
theorem znD {x:Cx} {st:St} {c:Code} {Q:Exit→St→Prop} (r:Nat) {e:TypeId} (l:List α) {sz n:Nat} {xs:List Value} (hr:look r st.p=some (.row e sz n xs)) (hsz:sz=Enc.size α) (hn:n=l.length) (hxs:xs=l.flatMap Enc.enc)
  (h:∀ (s:Sl α) h',s.l=l→RowAt e h' s→(∀ g,s.a=some ⟨g,0,none⟩→st.h g=none)→st.h.le h'→(∀ k,(∀ g,s.a=some ⟨g,0,none⟩→k ≠ g)→h' k=st.h k)→T x (st.sub r s.val h') c Q):T x st c Q:=by
 subst hsz hn hxs
 refine zjO r hr fun ad cap h' H=>?_
 obtain ⟨h1,h2,h3⟩:=H.row
 exact h ⟨ad,cap,l⟩ h' rfl h1 h2 H.le h3
theorem znE {x:Cx} {st:St} {t:Nat} {K:St→Prop} {s:Sl α} {e:TypeId} (ht:look t st.e=some (true,.c (.v s.val))) (H:RowAt e st.h s) (hown:∀ g,s.a=some ⟨g,0,none⟩→x.h0 g=none∨x.W0.own g)
  (hk:K ⟨(t,true,.c (.s st.nx)) :: st.e,(st.nx,.row e (Enc.size α) s.l.length (s.l.flatMap Enc.enc)) :: st.p,znC st.h s,st.nx+1⟩):zmH x st t K:=by
 obtain ⟨h1,h2,⟨ha,hl,hc⟩|⟨g,cur,ha,hb,hsz,htk⟩⟩:=H
 ·refine zmT e (Enc.size α) (by rw [ht,Sl.val,ha,hl,hc];rfl) ?_
  rw [hl] at hk
  simpa [znC,ha] using hk
 ·refine zmU (b:=g) (n:=s.l.length) (cap:=s.cap) (cur:=cur) (e:=e) (Enc.size α) (by rw [ht,Sl.val,ha]) hb (hown g ha) hsz h1 h2 ?_
  rw [htk]
  simpa [znC,ha] using hk
end
theorem znF {α:Type} {h h':Hp} {s:Sl α} (hl:h.le h') (hf:∀ g,s.a=some ⟨g,0,none⟩→h g=none) (hz:∀ a,s.a=some a→a.off=0∧a.spot=none):h.le (znC h' s):=by
 intro b o hb
 rcases s with ⟨a,cap,l⟩
 cases a with
 | none=>exact hl b o hb
 | some a =>
  show h'.del a.block b=some o
  simp only [Hp.del]
  split
  ·rename_i e
   obtain ⟨h1,h2⟩:=hz a rfl
   have:a=⟨a.block,0,none⟩:=by cases a;simp only at h1 h2;subst h1 h2;rfl
   have:=hf a.block (by rw [← this])
   rw [e,this] at hb;cases hb
  ·exact hl b o hb
section
variable {α:Type} [Enc α]
theorem RowAt.addr {e:TypeId} {h:Hp} {s:Sl α} (H:RowAt e h s):∀ a,s.a=some a→a.off=0∧a.spot=none:=by
 intro a ha
 obtain ⟨h1,h2,⟨ha',_⟩|⟨g,cur,ha',_⟩⟩:=H
 ·rw [ha] at ha';cases ha'
 ·rw [ha] at ha';cases ha';exact ⟨rfl,rfl⟩
end
theorem znG {α:Type} {h:Hp} {s:Sl α} {k:Nat} (hk:∀ a,s.a=some a→k ≠ a.block):znC h s k=h k:=by
 rcases s with ⟨a,cap,l⟩
 cases a with
 | none=>rfl
 | some a=>exact Hp.del_ne (hk a rfl)
open Go Go.RowKit
structure U64 where
 n:Nat
deriving DecidableEq
instance:Enc U64 where
 size:=1
 enc u:=[.int .u64 u.n]
 len _:=rfl
 one n u hu:=by simp only [List.mem_singleton] at hu;subst hu;rfl
 ok _ u:=u.n < 2 ^ 63
 mono _ H:=H
@[go_sem] theorem znH {b:U64}:Enc.enc b=[.int .u64 b.n]:=rfl
instance:Foot U64:=⟨fun _=>[],fun _ _=>True,fun H _ _=>⟨H,trivial⟩,fun _ b hb=>by cases hb⟩
open Go Go.RowKit
end Go.SL
