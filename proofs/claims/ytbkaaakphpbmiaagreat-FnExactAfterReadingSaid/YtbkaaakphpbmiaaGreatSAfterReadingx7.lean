/- Plain theorems about the model. -/
import Derived.Laws.BytesString
import Derived.Test.YtbkaaakphpbmiaaGreatSAfterReadingx4
set_option linter.unusedVariables false
set_option linter.unusedSimpArgs false
set_option maxRecDepth 4000
open Nat renaming reduceAdd → jq, reduceMul → jj, reduceBEq → jy, reduceLeDiff → jv, reduceLT → jk, reduceEqDiff → jx
open Bool renaming or_eq_false_iff → jp, or_eq_true → jQ, and_eq_true → jJ
open Int renaming toNat_natCast → jW, natCast_nonneg → jY
namespace Go.SL
open Go Go.RowKit
def Sl.to {α:Type} (s:Sl α) (k:Nat):Sl α:=⟨s.a,s.cap,s.l.take k⟩
theorem Sl.to_len {α:Type} {s:Sl α} {k:Nat} (hk:k≤s.l.length):(s.to k).l.length=k:=by show (s.l.take k).length=k;rw [List.length_take];omega
theorem Sl.to_ok {α:Type} [Enc α] {h:Hp} {s:Sl α} (H:s.Ok h) (k:Nat):(s.to k).Ok h:=by
 refine ⟨Nat.le_trans (by show (s.l.take k).length≤_;rw [List.length_take];omega) H.1,fun hne=>H.2.1 fun e=>hne (by show s.l.take k=[];rw [e];exact List.take_nil),fun i x hx=>H.2.2.1 i x ?_,fun x hx=>H.2.2.2.1 x (List.mem_of_mem_take hx),H.2.2.2.2⟩
 have hx:(s.l.take k)[i]?=some x:=hx
 rw [List.getElem?_take] at hx
 split at hx
 ·exact hx
 ·cases hx
theorem Sl.to_get {α:Type} {s:Sl α} {k j:Nat} (hj:j < (s.to k).l.length) (hj':j < s.l.length):(s.to k).l[j]=s.l[j]:=by
 exact List.getElem_take
theorem zmA:(fun x:Addr=>x.add 0)=fun x=>x:=by funext x;simp [Addr.add]
theorem zmB {α:Type} {a:Option α}:Option.map (fun x=>x) a=a:=by cases a <;> rfl
theorem zmC {α:Type} {s:Sl α} {k:Nat} (hk:k≤s.l.length):Value.slice s.a k s.cap=(s.to k).val:=by
 show _=Value.slice s.a (s.l.take k).length s.cap
 rw [List.length_take,Nat.min_eq_left hk]
open Go Go.RowKit
@[go_sem] theorem zmF {b o:Nat} {s}:blk (.pointer (some ⟨b,o,s⟩))=b:=rfl
theorem zmG {h:Hp} {b:Nat} {xs:List Value} {ty:TypeId} {o n:Nat} {ys:List Value} (hb:h b=some (.cells xs.toArray ty (0,0))) (hl:(xs.drop o).take n=ys) (hn:o+n≤xs.length):h.lds (some ⟨b,o,none⟩) n=some ys:=by
 subst hl
 refine zad (by simp;omega) fun j v hj=>?_
 have hj':xs[o+j]?=some v:=by
  rw [List.getElem?_take] at hj
  split at hj
  ·simpa [List.getElem?_drop] using hj
  ·cases hj
 rw [za4]
 simp only [Hp.cell,hb,Nat.zero_add,Option.isSome_none,Bool.false_eq_true,if_false]
 simpa using hj'
def Hp.del (h:Hp) (b:Nat):Hp:=fun i=>if i=b then none else h i
theorem Hp.del_ne {h:Hp} {b i:Nat} (hi:i ≠ b):h.del b i=h i:=by simp [Hp.del,hi]
theorem Hp.del_same {h:Hp} {b:Nat}:h.del b b=none:=by simp [Hp.del]
def zmH (x:Cx) (st:St) (t:Nat) (K:St→Prop):Prop :=
 ∃ v,look t st.e=some (true,.c (.v v))∧((v=.slice none 0 0∧∃ e sz,K ⟨(t,true,.c (.s st.nx)) :: st.e,(st.nx,.row e sz 0 []) :: st.p,st.h,st.nx+1⟩) ∨
  ∃ b n cap cur e sz,v=.slice (some ⟨b,0,none⟩) n cap∧st.h b=some (.cells cur e (0,0))∧(x.h0 b=none∨x.W0.own b)∧cur.size=cap * sz∧n≤cap∧cap≤maxLen ∧
   K ⟨(t,true,.c (.s st.nx)) :: st.e,(st.nx,.row e sz n (cur.toList.take (n * sz))) :: st.p,st.h.del b,st.nx+1⟩)
theorem Conc.adopt {x:Cx} {st:St} {a:Act} {W:World} {t:Nat} {v:Value} {e:TypeId} {sz n:Nat} {xs:List Value} {h':Hp} (ht:look t st.e=some (true,.c (.v v))) (hC:Conc x.W0 x.h0 x.N st a W)
  (hrow:W.ownsRow 0 e sz v n xs) (hle:∀ k o,h' k=some o→st.h k=some o) (hdel:∀ k,st.h k ≠ none→h' k=none→x.W0.own k)
  (hat:∀ g,(v=.pointer (some ⟨g,0,none⟩)∨∃ n c,v=.slice (some ⟨g,0,none⟩) n c)→x.W0.own g∧h' g=none∧st.h g ≠ none) :
  Conc x.W0 x.h0 x.N ⟨(t,true,.c (.s st.nx)) :: st.e,(st.nx,.row e sz n xs) :: st.p,h',st.nx+1⟩ a W:=by
 obtain ⟨ρ,hf,hW,hw⟩:=hC
 refine ⟨upd ρ st.nx v,?_,?_,?_⟩
 ·have hf':=hf.congr (wf_e hw) (zbU ρ st.nx v)
  refine ⟨hf'.1,hf'.2.1,fun t' c sv hl=>?_⟩
  simp only [look] at hl
  split at hl
  ·rename_i e;subst e
   simp only [Option.some.injEq,Prod.mk.injEq] at hl
   obtain ⟨rfl,rfl⟩:=hl
   rw [if_pos rfl,zak,zaj,zbT]
   have:=hf.2.2 _ _ _ ht
   simpa using this
  ·exact hf'.2.2 t' c sv hl
 ·have base:WOk x.W0 x.h0 ρ st.p h' W:=by
   refine ⟨hW.below,fun k o hk=>hW.sees k o (hle k o hk),fun k o h1 h2=>?_,fun k o h1 h2=>hW.new k o (hle k o h1) h2,hW.own,hW.priv,fun r b' g hr hat'=>?_,hW.distinct⟩
   ·have h3:=hW.ext k o h1 h2
    cases hh:h' k with
    | none=>exact (h2 (hdel k (by rw [h3];simp) hh)).elim
    | some o'=>rw [hle k o' hh] at h3;exact h3
   ·have:=hW.apart r b' g hr hat'
    cases hh:h' g with
    | none=>rfl
    | some o=>rw [hle g o hh] at this;cases this
  refine base.add (wf_p hw) (fun _ _ x=>x) base.below base.sees (fun g hg=>(hat g hg).1) (fun r b' hr=>base.priv r b' hr) ?_ (fun g hg=>(hat g hg).2.1) (fun r b' g hr hat' hv=>?_)
  ·show W.ownsRow 0 e sz (upd ρ st.nx _ st.nx) n _
   rw [zbT]
   exact hrow
  ·exact (hat g hv).2.2 (hW.apart r b' g hr hat')
 ·have hle':st.nx≤st.nx+1:=Nat.le_succ _
  simp only [St.wf,jJ]
  exact ⟨by simp [zam,SV.lt,SC.lt,zap hle' (wf_e hw)],by simp [pbLt,PB.lt,zaq hle' (wf_p hw)]⟩
theorem zmI {x:Cx} {st:St} {t:Nat} {K:St→Prop} {a:Act} {W:World} (h:zmH x st t K) (hC:Conc x.W0 x.h0 x.N st a W):∃ st',K st'∧Conc x.W0 x.h0 x.N st' a W:=by
 obtain ⟨v,ht,⟨rfl,e,sz,hk⟩|⟨b,n,cap,cur,e,sz,rfl,hb,hown,hsz,hn,hc,hk⟩⟩:=h
 ·refine ⟨_,hk,hC.adopt ht ⟨by simp,.inl ⟨rfl,rfl⟩⟩ (fun _ _ h=>h) (fun k h1 h2=>(h1 h2).elim) (fun g hg=>?_)⟩
  rcases hg with hg|⟨_,_,hg⟩ <;> cases hg
 ·have hC2:=hC
  obtain ⟨ρ,hf,hW,hw⟩:=hC2
  have ho:x.W0.own b:=Conc.own_new hW (by rw [hb];simp) hown
  refine ⟨_,hk,hC.adopt ht ⟨by rw [List.length_take,Array.length_toList,hsz,Nat.min_eq_left (Nat.mul_le_mul_right _ hn)],.inr ⟨b,cap,cur,rfl,Nat.zero_le _,hW.sees b _ hb,hn,hc,hsz,rfl⟩⟩ (fun k o hk=>?_) (fun k h1 h2=>?_) (fun g hg=>?_)⟩
  ·simp only [Hp.del] at hk;split at hk
   ·cases hk
   ·exact hk
  ·simp only [Hp.del] at h2;split at h2
   ·rename_i e;subst e;exact ho
   ·exact (h1 h2).elim
  ·rcases hg with hg|⟨_,_,hg⟩
   ·cases hg
   ·injection hg with hg;injection hg with hg;injection hg with hg;subst hg
    exact ⟨ho,Hp.del_same,by rw [hb];simp⟩
def zmJ (o:Oper):Option Nat:=match o.op with
 | .call ⟨.builtin .append,ars,_⟩=>(match ars.toList with|.tmp t :: _=>some t|_=>none)
 | _=>none
def bstr (ns:List Int):ByteArray:=ns.foldl (fun r n=>r.push (UInt8.ofNat n.toNat)) ByteArray.empty
def zmK (x:Cx) (st:St) (s d:TypeId) (vy:SV) (K:Value→Prop):Prop :=
 ∃ r e n ns e',vy=.c (.s r)∧look r st.p=some (.row e 1 n (ns.map (Value.int .u8)))∧x.P.underlying s=some (.slice e')∧x.P.underlying e'=some (.int .u8)∧x.P.underlying d=some .string∧K (.string (bstr ns))
def zmL (x:Cx) (st:St) (o:Oper) (K:St→Prop):Prop :=
 o.guard=none∧match o.op with
 | .convert s d y=>getO st true y fun vy=>zmK x st s d vy fun v=>K (St.mk (zb5 st.e o.dst true (.c (.v v))) st.p st.h st.nx)
 | _=>False
theorem zmM {x:Cx} {st:St} {o:Oper} {K:St→Prop} {QQ:Exit→Act→World→Prop} {a:Act} {W:World} (hd:∀ d',o.dst=some d'→d' < x.N) (h:zmL x st o K) (hC:Conc x.W0 x.h0 x.N st a W) :
  (∀ tm,Region.wanted o tm=true)∧o.wp x.P a W (fun a' W'=>∃ st',K st'∧Conc x.W0 x.h0 x.N st' a' W') QQ:=by
 obtain ⟨ρ,hf,hW,hw⟩:=hC
 obtain ⟨hg,h⟩:=h
 refine ⟨fun tm=>by simp [Region.wanted,hg],?_⟩
 split at h
 ·rename_i s d y ho
  obtain ⟨vy,h,_,hvy⟩:=zaB (N:=x.N) hw h
  obtain ⟨r,e,n,ns,e',rfl,hr,hs,he,hdd,hk⟩:=h
  replace hvy:=hvy rfl ρ a hf
  have hrow:W.ownsRow 0 e 1 (ρ r) n (ns.map (Value.int .u8)):=hW.priv r _ hr
  have hrun:(execOp a.eval o).run x.P W=.ok (.value (.string (bstr ns))) W:=by
   simp only [execOp,ho,hvy,zak,zaj]
   rcases hrow.2 with ⟨h1,h2⟩|⟨g,cap,cur,h1,_,hb,hn,_,hsz,htk⟩
   ·have h0:ns=[]:=by
     have:=hrow.1
     rw [h2,List.length_map] at this
     exact List.length_eq_zero_iff.1 (by omega)
    subst h0
    rw [h1]
    simp only [Sem.run_bind,run_convert_bytes_string W s d e' none _ _ hs he hdd]
    simp [Conv.bytesToString,Sem.run_pure,bstr]
   ·rw [h1]
    have hl:(loadCells ⟨g,0,none⟩ n).run x.P W=.ok (ns.map (Value.int .u8)).toArray W:=by
     have hlen:=hrow.1
     rw [Nat.mul_one] at hlen htk
     have:=run_loadCells_list (P:=x.P) W ⟨g,0,none⟩ (ns.map (Value.int .u8)) fun j v hj=>by
      rw [← htk,List.getElem?_take] at hj
      split at hj
      ·rw [za4]
       simp only [World.cell?,hb,Nat.zero_add,Option.isSome_none,Bool.false_eq_true,if_false]
       simpa using hj
      ·cases hj
     rw [hlen] at this
     exact this
    simp only [Sem.run_bind,run_convert_bytes_string W s d e' _ _ _ hs he hdd,run_bytesToString W _ n cap ns hl,Result.andThen_ok,Sem.run_pure]
    rfl
  unfold Oper.wp
  rw [hrun]
  exact ⟨_,hk,Conc.put_ (c:=true) hf hW (wf_p hw) (wf_e hw) hd rfl (by simp)⟩
 ·exact h.elim
def vopM (x:Cx) (ops:List Oper) (st:St) (o:Oper) (K:St→Prop):Nat→Prop
 | 0=>vop x.P ops st o K
 | 1=>vopX x st o K
 | 2=>vop x.P ops st o fun st'=>vpub st' o.dst K
 | 4=>zmL x st o K
 | 5=>onD (zmJ o) fun t=>zmH x st t fun st1=>vop x.P ops st1 o K
 | _=>onD (zmJ o) fun t=>zmH x st t fun st1=>vop x.P ops st1 o fun st'=>vpub st' o.dst K
def zmN (x:Cx) (ops:List Oper) (K:St→Prop):List Nat→List Oper→St→Prop
 | [],l,st=>vops x.P ops l st K
 | m :: ms,o :: l,st=>vopM x ops st o (fun st'=>zmN x ops K ms l st') m
 | _ :: _,[],_=>False
section
variable {x:Cx} {st:St} {Q:Exit→St→Prop}
theorem zmO {ops:List Oper} {o:Oper} {m:Nat} {K:St→Prop} {QQ:Exit→Act→World→Prop} {a:Act} {W:World} (hd:∀ d',o.dst=some d'→d' < x.N) (h:vopM x ops st o K m) (hC:Conc x.W0 x.h0 x.N st a W) :
  (Region.wanted o (yielded ops.toArray a.tmps)=true∧o.wp x.P a W (fun a' W'=>∃ st',K st'∧Conc x.W0 x.h0 x.N st' a' W') QQ)∨(Region.wanted o (yielded ops.toArray a.tmps)=false∧∃ st',K st'∧Conc x.W0 x.h0 x.N st' (a.put o.dst undef) W):=by
 have gen:∀ {K':St→Prop} {st:St},Conc x.W0 x.h0 x.N st a W→vop x.P ops st o K'→(∀ st' a' W',K' st'→Conc x.W0 x.h0 x.N st' a' W'→∃ st'',K st''∧Conc x.W0 x.h0 x.N st'' a' W') →
   (Region.wanted o (yielded ops.toArray a.tmps)=true∧o.wp x.P a W (fun a' W'=>∃ st',K st'∧Conc x.W0 x.h0 x.N st' a' W') QQ)∨(Region.wanted o (yielded ops.toArray a.tmps)=false∧∃ st',K st'∧Conc x.W0 x.h0 x.N st' (a.put o.dst undef) W):=by
  intro K' st hC h hn
  rcases zcY (Q:=QQ) hd h hC with ⟨hw,hwp⟩|⟨hw,st',hk,hC'⟩
  ·refine .inl ⟨hw,Oper.wp_mono ?_ hwp⟩
   rintro a' W' ⟨st',hk,hC'⟩
   exact hn st' a' W' hk hC'
  ·exact .inr ⟨hw,hn st' _ _ hk hC'⟩
 match m,h with
 | 0,h=>exact gen hC h fun st' a' W' hk hC'=>⟨st',hk,hC'⟩
 | 1,h =>
  obtain ⟨hw,hwp⟩:=zln (QQ:=QQ) hd h hC
  exact .inl ⟨hw _,hwp⟩
 | 2,h=>exact gen hC h fun st' a' W' hk hC'=>zlo hk hC'
 | 4,h =>
  obtain ⟨hw,hwp⟩:=zmM (QQ:=QQ) hd h hC
  exact .inl ⟨hw _,hwp⟩
 | 5,h =>
  have h:onD (zmJ o) fun t=>zmH x st t fun st1=>vop x.P ops st1 o K:=h
  unfold onD at h
  split at h
  ·obtain ⟨st1,h,hC1⟩:=zmI h hC
   exact gen hC1 h fun st' a' W' hk hC'=>⟨st',hk,hC'⟩
  ·exact h.elim
 | 3,h|m+6,h =>
  have h:onD (zmJ o) fun t=>zmH x st t fun st1=>vop x.P ops st1 o fun st'=>vpub st' o.dst K:=h
  unfold onD at h
  split at h
  ·obtain ⟨st1,h,hC1⟩:=zmI h hC
   exact gen hC1 h fun st' a' W' hk hC'=>zlo hk hC'
  ·exact h.elim
theorem zmP {ops:List Oper} {K:St→Prop} {QQ:Exit→Act→World→Prop} (hQ:∀ st' a' W',K st'→Conc x.W0 x.h0 x.N st' a' W'→QQ .normal a' W'):∀ {ms:List Nat} {l:List Oper} {st:St} {a:Act} {W:World},zcZ x.N l=true→zmN x ops K ms l st→Conc x.W0 x.h0 x.N st a W →
  wpList x.P ops.toArray QQ l a W
 | [],l,st,a,W,hd,h,hC=>by
  have h:vops x.P ops l st K:=by cases l <;> exact h
  exact zc0 hd hQ h hC
 | m :: ms,[],st,a,W,hd,h,hC=>h.elim
 | m :: ms,o :: l,st,a,W,hd,h,hC=>by
  simp only [zcZ,jJ] at hd
  have hd1:∀ d',o.dst=some d'→d' < x.N:=by
   intro d' e
   have:=hd.1
   rw [e] at this
   simpa using this
  have h:vopM x ops st o (fun st'=>zmN x ops K ms l st') m:=h
  simp only [wpList]
  rcases zmO (QQ:=QQ) hd1 h hC with ⟨hw,hwp⟩|⟨hw,st',hk,hC'⟩
  ·rw [if_pos hw]
   left
   refine Oper.wp_mono ?_ hwp
   rintro a' W' ⟨st',hk,hC'⟩
   exact zmP hQ hd.2 hk hC'
  ·rw [if_neg (by simp [hw])]
   exact zmP hQ hd.2 hk hC'
theorem zmQ {id:Nat} {ops:List Oper} (n:List Nat) (hd:zcZ x.N ops=true) (h:zmN x ops (fun st'=>Q .normal st') n ops st):T x st (.region id ops.toArray false) Q:=by
 unfold T
 intro a W hC
 exact wp_region_lit (zmP (fun st' a' W' hk hC'=>⟨st',hk,hC'⟩) hd h hC)
theorem zmR {id:Nat} {ops:List Oper} {d:Code} (n:List Nat) (hd:zcZ x.N ops=true) (h:zmN x ops (fun st'=>T x st' d Q) n ops st):T x st (.seq (.region id ops.toArray false) d) Q :=
 zc3 (zmQ n hd h)
end
attribute [irreducible] zmK zmH
theorem zmS {x:Cx} {st:St} {s d:TypeId} {r:Nat} {e:TypeId} {n:Nat} {ns:List Int} {xs:List Value} {e':TypeId} {K:Value→Prop} (hr:look r st.p=some (.row e 1 n xs)) (hx:xs=ns.map (Value.int .u8))
  (h1:x.P.underlying s=some (.slice e')) (h2:x.P.underlying e'=some (.int .u8)) (h3:x.P.underlying d=some .string) (hk:K (.string (bstr ns))):zmK x st s d (.c (.s r)) K:=by
 unfold zmK;subst hx;exact ⟨r,e,n,ns,e',rfl,hr,h1,h2,h3,hk⟩
theorem zmT {x:Cx} {st:St} {t:Nat} {K:St→Prop} (e:TypeId) (sz:Nat) (ht:look t st.e=some (true,.c (.v (.slice none 0 0)))) (hk:K ⟨(t,true,.c (.s st.nx)) :: st.e,(st.nx,.row e sz 0 []) :: st.p,st.h,st.nx+1⟩):zmH x st t K:=by
 unfold zmH;exact ⟨_,ht,.inl ⟨rfl,e,sz,hk⟩⟩
theorem zmU {x:Cx} {st:St} {t:Nat} {K:St→Prop} {b n cap:Nat} {cur:Array Value} {e:TypeId} (sz:Nat) (ht:look t st.e=some (true,.c (.v (.slice (some ⟨b,0,none⟩) n cap)))) (hb:st.h b=some (.cells cur e (0,0)))
  (hown:x.h0 b=none∨x.W0.own b) (hsz:cur.size=cap * sz) (hn:n≤cap) (hc:cap≤maxLen)
  (hk:K ⟨(t,true,.c (.s st.nx)) :: st.e,(st.nx,.row e sz n (cur.toList.take (n * sz))) :: st.p,st.h.del b,st.nx+1⟩):zmH x st t K:=by
 unfold zmH;exact ⟨_,ht,.inr ⟨b,n,cap,cur,e,sz,rfl,hb,hown,hsz,hn,hc,hk⟩⟩
section
variable {x:Cx} {st:St} {o:Oper} {l ops:List Oper} {m:Nat} {ms:List Nat} {K:St→Prop}
@[go_sem] theorem zmV:zmN x ops K [] l st=vops x.P ops l st K:=by cases l <;> rfl
@[go_sem] theorem zmW:zmN x ops K (m :: ms) (o :: l) st=vopM x ops st o (fun st'=>zmN x ops K ms l st') m:=rfl
@[go_sem] theorem zmX:vopM x ops st o K 0=vop x.P ops st o K:=rfl
@[go_sem] theorem zmY:vopM x ops st o K 1=vopX x st o K:=rfl
@[go_sem] theorem zmZ:vopM x ops st o K 2=vop x.P ops st o fun st'=>vpub st' o.dst K:=rfl
@[go_sem] theorem zm0:vopM x ops st o K 3=onD (zmJ o) fun t=>zmH x st t fun st1=>vop x.P ops st1 o fun st'=>vpub st' o.dst K:=rfl
@[go_sem] theorem zm1:vopM x ops st o K 5=onD (zmJ o) fun t=>zmH x st t fun st1=>vop x.P ops st1 o K:=rfl
@[go_sem] theorem zm2:vopM x ops st o K 4=zmL x st o K:=rfl
@[go_sem] theorem zm3 {d:Option Nat} {t:Tmp} {y:Operand} {ats:Array TypeId} {ty:TypeId} {p:String} {af:Array Edge} {gd:Option (Nat × Bool)}:zmJ ⟨d,.call ⟨.builtin .append,#[.tmp t,y],ats⟩,ty,p,af,gd⟩=some t:=rfl
@[go_sem] theorem zm4 {d:Option Nat} {s dd:TypeId} {y:Operand} {ty:TypeId} {p:String} {af:Array Edge}:zmL x st ⟨d,.convert s dd y,ty,p,af,none⟩ K=getO st true y fun vy=>zmK x st s dd vy fun v=>K (St.mk (zb5 st.e d true (.c (.v v))) st.p st.h st.nx):=by
 unfold zmL;simp
@[congr] theorem zm5 {st':St} (h:st=st'):zmN x ops K ms l st=zmN x ops K ms l st':=by rw [h]
end
open Go Go.RowKit
def zm6 (ops:Array Oper):Nat→Nat→Nat→Bool
 | 0,_,_=>false
 | f+1,k,i=>match ops[k]? with
  | some o=>o.after.toList.any fun e=>Region.binds .any e && (e.on == i || zm6 ops f e.on i)
  | none=>false
def Closed (ops:Array Oper) (l:Array Bool):Prop:=∀ k o,ops[k]?=some o→l.getD k false=true→∀ e ∈ o.after,Region.binds .any e=true→l.getD e.on false=true
theorem zm7 {ops:Array Oper} {l:Array Bool} (hc:Closed ops l) {i:Nat} (hi:l.getD i false=false):∀ {f k:Nat},l.getD k false=true→zm6 ops f k i=false
 | 0,_,_=>rfl
 | f+1,k,hk=>by
  unfold zm6
  split
  ·rename_i o ho
   rw [List.any_eq_false]
   intro e he hb
   simp only [jJ,jQ,beq_iff_eq] at hb
   have h1:=hc k o ho hk e (by simpa using he) hb.1
   rcases hb.2 with h2|h2
   ·rw [h2,hi] at h1;cases h1
   ·rw [zm7 hc hi h1] at h2;cases h2
  ·rfl
theorem zm8 {l:Array Bool} {i:Nat} (h:l.getD i true=false):l.getD i false=false:=by
 rcases Nat.lt_or_ge i l.size with h'|h'
 ·simpa [Array.getD,h'] using h
 ·simp [Array.getD,Nat.not_lt.2 h'] at h
theorem zm9 {l:Array Bool} {i k:Nat} (h:l.getD k false=true):(l.setIfInBounds i true).getD k false=true:=by
 simp only [Array.getD_eq_getD_getElem?] at h ⊢
 by_cases e:i=k
 ·subst e
  rcases Nat.lt_or_ge i l.size with h'|h'
  ·simp [h']
  ·simp [Array.getElem?_eq_none h'] at h
 ·rw [Array.getElem?_setIfInBounds_ne e];exact h
theorem zna {l:Array Bool} {i k:Nat} (e:i ≠ k):(l.setIfInBounds i true).getD k false=l.getD k false:=by
 simp only [Array.getD_eq_getD_getElem?]
 rw [Array.getElem?_setIfInBounds_ne e]
theorem znb {ops:Array Oper} {l:Array Bool} (hc:Closed ops l) {i j:Nat} (hi:l.getD i false=false) (hj:j ∈ Region.ready .any ops l):∀ {f:Nat},zm6 ops f j i=false
 | 0=>rfl
 | f+1=>by
  obtain ⟨_,o,ho,hall⟩:=mem_ready.1 hj
  unfold zm6
  rw [ho]
  rw [List.any_eq_false]
  intro e he hb
  simp only [jJ,jQ,beq_iff_eq] at hb
  have h1:=hall e (by simpa using he) hb.1
  rcases hb.2 with h2|h2
  ·rw [h2,hi] at h1;cases h1
  ·rw [zm7 hc hi h1] at h2;cases h2
theorem Closed.set {ops:Array Oper} {l:Array Bool} (hc:Closed ops l) {j:Nat} (hj:j ∈ Region.ready .any ops l):Closed ops (l.setIfInBounds j true):=by
 intro k o ho hk e he hb
 by_cases ej:j=k
 ·subst ej
  obtain ⟨_,o',ho',hall⟩:=mem_ready.1 hj
  rw [ho] at ho';cases ho'
  exact zm9 (hall e he hb)
 ·rw [zna ej] at hk
  exact zm9 (hc k o ho hk e he hb)
def znc (P:Program) (ops:Array Oper) (Q:Exit→Act→World→Prop) (S:Array Bool→World→Prop):Nat→Array Bool→Act→World→Prop
 | 0,listed,a,w=>Region.ready .any ops listed=[]∧Q .normal a w
 | fuel+1,listed,a,w =>
  (Region.ready .any ops listed=[]→Q .normal a w) ∧
  ∀ i ∈ Region.ready .any ops listed,wpOp P ops Q i (fun a' w'=>S (listed.setIfInBounds i true) w'∧znc P ops Q S fuel (listed.setIfInBounds i true) a' w') a w
section
variable {P:Program} {ops:Array Oper} {Q:Exit→Act→World→Prop} {S S':Array Bool→World→Prop}
theorem znd:∀ (fuel:Nat) (listed:Array Bool) (a:Act) (w:World),znc P ops Q S fuel listed a w→wpAny P .any ops Q fuel listed a w
 | 0,_,_,_,h=>h
 | fuel+1,_,_,_,h=>⟨h.1,fun i hi=>wpOp_mono (fun a' w' h'=>znd fuel _ a' w' h'.2) (h.2 i hi)⟩
theorem zne {i:Nat} {oi:Oper} {v:Value} {G:World→Prop} (hi:ops[i]?=some oi) (hsel:∀ (j:Nat) (o:Oper) cs b,ops[j]?=some o→o.op ≠ .select cs b)
  (hQ:∀ c a w,Q (.panic c) (a.put oi.dst v) w→Q (.panic c) a w)
  (hG:∀ (l:Array Bool) (j:Nat) (w:World),Closed ops l→l.getD i false=false→j ∈ Region.ready .any ops l→j ≠ i→S' ((l.setIfInBounds i true).setIfInBounds j true) w→G w)
  (hS:∀ (l:Array Bool) (j:Nat) (w:World),S' ((l.setIfInBounds i true).setIfInBounds j true) w→S (l.setIfInBounds j true) w)
  (hA:∀ (l:Array Bool) (w:World),S l w→S (l.setIfInBounds i true) w)
  (hE:∀ (fuel:Nat) (l:Array Bool) (a:Act) (w:World),znc P ops Q S' fuel (l.setIfInBounds i true) a w→znc P ops Q S fuel (l.setIfInBounds i true) a w) :
  ∀ (fuel:Nat) (listed:Array Bool) (a:Act) (w:World),
   (∀ j oj,ops[j]?=some oj→j ≠ i→listed.getD j true=false→(∀ e ∈ oj.after,Region.binds .any e=true→e.on ≠ i)→oi.apart ops oj=true) →
   Closed ops listed→i ∈ Region.ready .any ops listed→YieldsIf P ops G oi v a→G w→S (listed.setIfInBounds i true) w →
   znc P ops Q S' fuel (listed.setIfInBounds i true) (a.put oi.dst v) w→znc P ops Q S (fuel+1) listed a w:=by
 intro fuel
 induction fuel with
 | zero =>
  intro listed a w _ hc hr hy hGw hSw H
  refine ⟨fun h=>(by rw [h] at hr;cases hr),fun j hj=>?_⟩
  by_cases hji:j=i
  ·subst hji;exact hy.wpOp hi hGw ⟨hSw,hE _ _ _ _ H⟩
  ·have:=ready_mono hj hji
   rw [H.1] at this
   cases this
 | succ fuel ih =>
  intro listed a w hfree hc hr hy hGw hSw H
  have hiun:listed.getD i false=false:=zm8 (mem_ready.1 hr).1
  refine ⟨fun h=>(by rw [h] at hr;cases hr),fun j hj=>?_⟩
  by_cases hji:j=i
  ·subst hji;exact hy.wpOp hi hGw ⟨hSw,hE _ _ _ _ H⟩
  ·have h1:=H.2 j (ready_mono hj hji)
   obtain ⟨hjun,oj,hoj,hall⟩:=mem_ready.1 hj
   have hnot:∀ e ∈ oj.after,Region.binds .any e=true→e.on ≠ i:=fun e he hb heq=>by
    have h1:=hall e he hb
    rw [heq,hiun] at h1
    cases h1
   have h2:=wpOp_putIf hoj (hfree j oj hoj hji hjun hnot) (fun cs b=>hsel i oi cs b hi) (fun cs b=>hsel j oj cs b hoj) hQ hy h1
   have hfree':∀ k ok,ops[k]?=some ok→k ≠ i→(listed.setIfInBounds j true).getD k true=false →
     (∀ e ∈ ok.after,Region.binds .any e=true→e.on ≠ i)→oi.apart ops ok=true:=fun k ok hk hki hun hno=>by
    refine hfree k ok hk hki ?_ hno
    by_cases hjk:j=k
    ·subst hjk;exact hjun
    ·rw [getD_set_ne true hjk] at hun;exact hun
   refine wpOp_mono (fun a' w' h3=>?_) h2
   have s1:=hS listed j w' h3.2.1
   refine ⟨s1,ih (listed.setIfInBounds j true) a' w' hfree' (hc.set hj) (ready_mono hr (Ne.symm hji)) h3.1 (hG listed j w' hc hiun hj hji h3.2.1) (hA _ _ s1) ?_⟩
   rw [Array.setIfInBounds_comm _ _ hji]
   exact h3.2.2
end
abbrev TkI:=Nat × Tk
def znf (ops:Array Oper) (tk:List Nat) (l:Array Bool) (i:Nat):Bool:=(List.range ops.size).any fun k=>l.getD k false && !tk.contains k && zm6 ops ops.size k i
def SS (P:Program) (ops:Array Oper) (tk:List Nat) (D:List TkI) (l:Array Bool) (W:World):Prop :=
 ∀ t ∈ D,znf ops tk l t.1=false→Region.wanted t.2.1 (yielded ops t.2.2.2.tmps)=true→(execOp t.2.2.2.eval t.2.1).run P W=.ok (.value t.2.2.1) W
theorem zng {ops:Array Oper} {tk:List Nat} {l:Array Bool} {i:Nat}:znf ops tk l i=false ↔ ∀ k,k < ops.size→l.getD k false=true→k ∉ tk→zm6 ops ops.size k i=false:=by
 unfold znf
 rw [List.any_eq_false]
 constructor
 ·intro h k hk h1 h2
  have:=h k (List.mem_range.2 hk)
  simp only [h1,Bool.true_and,jJ,Bool.not_eq_true',List.contains_eq_mem,decide_eq_false_iff_not,not_and,Bool.not_eq_true] at this
  exact this h2
 ·intro h k hk
  have hk:=List.mem_range.1 hk
  intro hb
  simp only [jJ,Bool.not_eq_true',List.contains_eq_mem,decide_eq_false_iff_not] at hb
  rw [h k hk hb.1.1 hb.1.2] at hb
  cases hb.2
theorem znh {P:Program} {ops:Array Oper} {Q:Exit→Act→World→Prop} {S S':Array Bool→World→Prop} (h:∀ l w,S' l w→S l w):∀ (fuel:Nat) (listed:Array Bool) (a:Act) (w:World),znc P ops Q S' fuel listed a w→znc P ops Q S fuel listed a w
 | 0,_,_,_,H=>H
 | fuel+1,_,_,_,H=>⟨H.1,fun i hi=>wpOp_mono (fun a' w' h'=>⟨h _ _ h'.1,znh h fuel _ a' w' h'.2⟩) (H.2 i hi)⟩
def nmv (ops:List Oper) (k:Nat):Bool:=match ops[k]? with|some o=>!isMv o.op|none=>false
@[irreducible] def U (x:Cx) (ops:List Oper) (tk:List Nat) (fuel:Nat) (listed:Array Bool) (st:St) (K:St→Prop):Prop :=
 ∀ (D:List TkI),D.map (·.1)=tk.filter (nmv ops)→(∀ t ∈ D,ops[t.1]?=some t.2.1)→Closed ops.toArray listed→(∀ k ∈ tk,listed.getD k false=true) →
  ∀ a W,Conc x.W0 x.h0 x.N st a W→FrD ops.toArray (D.map (·.2)) a→SS x.P ops.toArray tk D listed W →
  znc x.P ops.toArray (QN x K) (SS x.P ops.toArray tk D) fuel listed a W
def zni (ops:List Oper) (tk:List Nat) (o:Oper):Bool:=tk.all fun k=>!nmv ops k || match ops[k]? with|some t=>ziE t && ziH ops.toArray t o|none=>false
theorem znj {ops:List Oper} {tk:List Nat} {o:Oper} {D:List TkI} (h:zni ops tk o=true) (hD:D.map (·.1)=tk.filter (nmv ops)) (hop:∀ t ∈ D,ops[t.1]?=some t.2.1):∀ t ∈ D.map (·.2),ziE t.1=true∧ziH ops.toArray t.1 o=true:=by
 intro t ht
 obtain ⟨t',ht',rfl⟩:=List.mem_map.1 ht
 have h1:t'.1 ∈ tk.filter (nmv ops):=by rw [← hD];exact List.mem_map_of_mem ht'
 obtain ⟨h1,h2⟩:=List.mem_filter.1 h1
 have:=List.all_eq_true.1 h _ h1
 rw [h2,hop t' ht'] at this
 simpa using this
def znk (ops:List Oper) (listed:Array Bool) (tk:List Nat) (i:Nat) (o:Oper) (N:Nat):Bool :=
 Region.noSelect ops.toArray && Region.free .any ops.toArray listed i && (Region.ready .any ops.toArray listed).contains i && isQ o.op && ziE o && ziL ops o N && zni ops tk o && !tk.contains i
section
variable {x:Cx} {ops:List Oper} {tk:List Nat} {fuel:Nat} {listed:Array Bool} {st:St} {K:St→Prop}
theorem znl (i:Nat) {o:Oper} (hi:ops[i]?=some o) (hok:znk ops listed tk i o x.N=true)
  (h:isQ o.op=true→st.wf=true→∃ g sv,U x ops (i :: tk) fuel (listed.setIfInBounds i true) (st.put o.dst g sv) K∧sv.lt st.nx=true∧(g=true→Yv x.P x.W0 x.h0 x.N st o sv)∧∀ ρ a,FOk x.N ρ st.e a→Region.wanted o (yielded ops.toArray a.tmps)=g):U x ops tk (fuel+1) listed st K:=by
 unfold U at *
 intro D hD hop hcl htk a W hC hF hS
 simp only [znk,jJ] at hok
 obtain ⟨⟨⟨⟨⟨⟨⟨c1,c2⟩,c3⟩,c4⟩,c5⟩,c6⟩,c7⟩,c8⟩:=hok
 have c8:i ∉ tk:=by simpa using c8
 obtain ⟨ρ,hf,hW,hwf⟩:=hC
 obtain ⟨g,sv,k1,k2,k3,hg⟩:=h c4 hwf
 replace hg:=hg ρ a hf
 unfold ziL at c6
 split at c6
 case h_2=>cases c6
 rename_i d hd
 simp only [jJ,decide_eq_true_eq,Bool.not_eq_true',List.contains_eq_mem,decide_eq_false_iff_not] at c6
 have hi':ops.toArray[i]?=some o:=by simpa using hi
 have hr:i ∈ Region.ready .any ops.toArray listed:=by simpa using c3
 have hiun:listed.getD i false=false:=zm8 (mem_ready.1 hr).1
 have hisz:i < listed.size:=by
  have:=(mem_ready.1 hr).1
  rcases Nat.lt_or_ge i listed.size with h'|h'
  ·exact h'
  ·simp [Array.getD,Nat.not_lt.2 h'] at this
 let v:Value:=if g=true then sv.conc ρ else undef
 have hC':Conc x.W0 x.h0 x.N (st.put o.dst g sv) (a.put o.dst v) W:=Conc.put_q hwf (fun d' e=>by rw [hd] at e;cases e;exact c6.1) hf hW k2 rfl
 have hown:∀ d',o.dst=some d'→d' ∉ o.looksAt ops.toArray:=fun d' e=>by rw [hd] at e;cases e;exact c6.2
 let D':List TkI:=if nmv ops i=true then (i,o,v,a) :: D else D
 have memD':∀ t,t ∈ D'→t=(i,o,v,a)∧nmv ops i=true∨t ∈ D:=by
  intro t ht
  simp only [D'] at ht
  split at ht
  ·rename_i hn
   rcases List.mem_cons.1 ht with rfl|ht
   ·exact .inl ⟨rfl,hn⟩
   ·exact .inr ht
  ·exact .inr ht
 have memD:∀ t,t ∈ D→t ∈ D':=by
  intro t ht
  simp only [D']
  split
  ·exact List.mem_cons_of_mem _ ht
  ·exact ht
 have hFput:FrD ops.toArray (D.map (·.2)) (a.put o.dst v):=hF.put (znj c7 hD hop)
 have hF':FrD ops.toArray (D'.map (·.2)) (a.put o.dst v):=by
  intro t ht
  obtain ⟨t',ht',rfl⟩:=List.mem_map.1 ht
  rcases memD' t' ht' with ⟨rfl,_⟩|ht'
  ·refine ⟨execOp_put o (ziF c5) a o.dst v hown,wanted_put o a o.dst v hown,fun d' e=>?_⟩
   simp only at e
   rw [hd] at e;cases e
   have hsz:d < a.tmps.size:=by rw [hf.2.1];exact c6.1
   simp [Act.put,hd,hsz]
  ·exact hFput _ (List.mem_map_of_mem ht')
 have hD':D'.map (·.1)=(i :: tk).filter (nmv ops):=by
  simp only [D',List.filter_cons]
  split
  ·rw [List.map_cons,hD]
  ·exact hD
 have hop':∀ t ∈ D',ops[t.1]?=some t.2.1:=by
  intro t ht
  rcases memD' t ht with ⟨rfl,_⟩|ht
  ·exact hi
  ·exact hop t ht
 have htk':∀ k ∈ i :: tk,(listed.setIfInBounds i true).getD k false=true:=by
  intro k hk
  rcases List.mem_cons.1 hk with rfl|hk
  ·simp [Array.getD,hisz]
  ·exact zm9 (htk k hk)
 have hrun:g=true→(execOp a.eval o).run x.P W=.ok (.value v) W:=fun hg1=>by
  have:=k3 hg1 ρ a W hf hW
  simp only [v,hg1,if_true]
  exact this
 have anti:∀ (l:Array Bool) (w:World),SS x.P ops.toArray tk D l w→SS x.P ops.toArray tk D (l.setIfInBounds i true) w:=by
  intro l w h t ht hs
  refine h t ht (zng.2 fun k hk h1 h2=>zng.1 hs k hk (zm9 h1) h2)
 have mono':∀ (l:Array Bool) (w:World),SS x.P ops.toArray (i :: tk) D' l w→SS x.P ops.toArray tk D l w:=by
  intro l w h t ht hs
  exact h t (memD t ht) (zng.2 fun k hk h1 h2=>zng.1 hs k hk h1 (fun e=>h2 (List.mem_cons_of_mem _ e)))
 have hS':SS x.P ops.toArray (i :: tk) D' (listed.setIfInBounds i true) W:=by
  intro t ht hs hw
  rcases memD' t ht with ⟨rfl,_⟩|ht
  ·exact hrun (by rw [← hg];exact hw)
  ·refine hS t ht (zng.2 fun k hk h1 h2=>zng.1 hs k hk (zm9 h1) (fun e=>?_)) hw
   rcases List.mem_cons.1 e with rfl|e
   ·rw [hiun] at h1;cases h1
   ·exact h2 e
 let G:World→Prop:=fun w=>g=true→(execOp a.eval o).run x.P w=.ok (.value v) w
 have hy:YieldsIf x.P ops.toArray G o v a:=by
  cases hgg:g with
  | true=>exact .inl ⟨by rw [hg,hgg],fun w hw=>hw hgg⟩
  | false=>exact .inr ⟨by rw [hg,hgg],by simp [v,hgg]⟩
 have hGmv:nmv ops i=false→∀ w,G w:=fun hn w hg1=>by
  have hm:isMv o.op=true:=by simpa [nmv,hi] using hn
  exact ziR hm (hrun hg1) w
 have H:=k1 D' hD' hop' (hcl.set hr) htk' _ W hC' hF' hS'
 refine zne (G:=G) hi' (Region.noSelect_spec c1) ?_ (fun l j w hcl' hl hj hji hs=>?_) (fun l j w hs=>?_) anti (fun fuel l a w h=>znh mono' fuel _ a w h) fuel listed a W (Region.free_spec hi' c2) hcl hr hy hrun (anti _ _ hS) H
 ·rintro c a' w ⟨e,_⟩
  cases e
 ·cases hn:nmv ops i with
  | false=>exact hGmv hn w
  | true =>
   intro hg1
   have hm:(i,o,v,a) ∈ D':=by simp [D',hn]
   refine hs _ hm (zng.2 fun k hk h1 h2=>?_) (by rw [← hg1];exact hg)
   have hki:i ≠ k:=fun e=>h2 (by rw [e];exact List.mem_cons_self ..)
   by_cases hkj:j=k
   ·subst hkj;exact znb hcl' hl hj
   ·rw [zna hkj,zna hki] at h1
    exact zm7 hcl' hl h1
 ·intro t ht hs2
  refine hs t (memD t ht) (zng.2 fun k hk h1 h2=>zng.1 hs2 k hk ?_ (fun e=>h2 (List.mem_cons_of_mem _ e)))
  have hki:i ≠ k:=fun e=>h2 (by rw [e];exact List.mem_cons_self ..)
  by_cases hkj:j=k
  ·subst hkj
   rw [Array.setIfInBounds_comm _ _ hki,zna hki] at h1
   exact h1
  ·rw [zna hkj,zna hki] at h1
   exact zm9 h1
def znm (ops:List Oper) (N:Nat):List (Nat × Oper)→Nat→Array Bool→List Nat→Bool
 | [],_,_,_=>true
 | _ :: _,0,_,_=>false
 | (i,o) :: l,fuel+1,listed,tk=>znk ops listed tk i o N && znm ops N l fuel (listed.setIfInBounds i true) (i :: tk)
def tkA:List Nat→List Nat→List Nat
 | [],tk=>tk
 | i :: l,tk=>tkA l (i :: tk)
theorem znn {K':St→Prop}:∀ {l:List (Nat × Oper)} {fuel:Nat} {listed:Array Bool} {tk:List Nat} {st:St},(∀ io ∈ l,ops[io.1]?=some io.2)→znm ops x.N l fuel listed tk=true →
  vops x.P ops (l.map (·.2)) st K'→(∀ st',K' st'→U x ops (tkA (l.map (·.1)) tk) (fuel - l.length) (zi0 l listed) st' K)→U x ops tk fuel listed st K
 | [],fuel,listed,tk,st,_,_,h,hk=>hk _ h
 | _ :: _,0,_,_,_,_,hok,_,_=>by simp [znm] at hok
 | (i,o) :: l,fuel+1,listed,tk,st,hp,hok,h,hk=>by
  simp only [znm,jJ] at hok
  refine znl i (hp _ (List.mem_cons_self ..)) hok.1 fun hq hwf=>?_
  obtain ⟨g,sv,k1,k2⟩:=ziP (W0:=x.W0) (h0:=x.h0) (N:=x.N) hq hwf h
  exact ⟨g,sv,znn (fun io hi=>hp io (List.mem_cons_of_mem _ hi)) hok.2 k1 (fun st' h'=>by simpa [tkA,zi0] using hk st' h'),k2⟩
theorem zno (is:List Nat) {l:List (Nat × Oper)} (hp:ziW ops is=some l) (hok:znm ops x.N l fuel listed tk=true)
  (h:vops x.P ops (l.map (·.2)) st fun st'=>U x ops (tkA (l.map (·.1)) tk) (fuel - l.length) (zi0 l listed) st' K):U x ops tk fuel listed st K :=
 znn (zi1 hp) hok h fun _ h=>h
def znp (ops:List Oper) (tk:List Nat) (l:Array Bool):List Nat:=(tk.filter (nmv ops)).filter fun k=>!znf ops.toArray tk l k
def znq (x:Cx) (ops:List Oper) (tk:List Nat) (l:Array Bool) (st:St):Prop:=∃ ls,ziW ops (znp ops tk l)=some ls∧vre x.P ops st (ls.map (·.2))
theorem znr {D:List TkI} {a:Act} {W:World} (hD:D.map (·.1)=tk.filter (nmv ops)) (hop:∀ t ∈ D,ops[t.1]?=some t.2.1) (hC:Conc x.W0 x.h0 x.N st a W) (hF:FrD ops.toArray (D.map (·.2)) a) (h:znq x ops tk listed st):SS x.P ops.toArray tk D listed W:=by
 obtain ⟨ls,hp,h⟩:=h
 intro t ht hs
 have hm:t.1 ∈ znp ops tk listed:=by
  refine List.mem_filter.2 ⟨?_,by rw [hs];rfl⟩
  rw [← hD];exact List.mem_map_of_mem ht
 have hm2:t.2.1 ∈ ls.map (·.2):=by
  have aux:∀ {is:List Nat} {l:List (Nat × Oper)},ziW ops is=some l→∀ i ∈ is,∀ o,ops[i]?=some o→o ∈ l.map (·.2):=by
   intro is
   induction is with
   | nil=>intro l _ i hi;cases hi
   | cons j is ih =>
    intro l hl i hi o ho
    simp only [ziW] at hl
    split at hl
    ·rename_i o' l' ho' hl'
     simp only [Option.some.injEq] at hl
     subst hl
     rcases List.mem_cons.1 hi with rfl|hi
     ·rw [ho'] at ho;cases ho;exact List.mem_cons_self ..
     ·exact List.mem_cons_of_mem _ (ih hl' i hi o ho)
    ·cases hl
  exact aux hp _ hm _ (hop t ht)
 have one:∀ {l:List Oper},vre x.P ops st l→∀ o ∈ l,isQ o.op=true∧(vop x.P ops st o fun st'=>dstE o st.e st'.e):=by
  intro l
  induction l with
  | nil=>intro _ o ho;cases ho
  | cons o' l ih =>
   intro hv o ho
   rcases List.mem_cons.1 ho with rfl|ho
   ·exact ⟨hv.1,hv.2.1⟩
   ·exact ih hv.2.2 o ho
 obtain ⟨hq,hv⟩:=one h _ hm2
 have hS:=ziJ (D:=[t.2]) hC (fun t' ht'=>hF t' (by rw [List.mem_singleton.1 ht'];exact List.mem_map_of_mem ht)) ⟨hq,hv,trivial⟩
 exact hS t.2 (List.mem_singleton.2 rfl)
theorem zns (i m:Nat) {o:Oper} (hi:ops[i]?=some o) (hr:Region.ready .any ops.toArray listed=[i]) (hok:(zni ops tk o && (match o.dst with|some d=>decide (d < x.N)|none=>true))=true)
  (h:vopM x ops st o (fun st'=>znq x ops tk (listed.setIfInBounds i true) st'∧U x ops tk fuel (listed.setIfInBounds i true) st' K) m):U x ops tk (fuel+1) listed st K:=by
 simp only [jJ] at hok
 unfold U at *
 intro D hD hop hcl htk a W hC hF hS
 refine ⟨fun h0=>(by rw [hr] at h0;cases h0),fun j hj=>?_⟩
 have hj':=hj
 rw [hr] at hj
 obtain rfl:=List.mem_singleton.1 hj
 have hi':ops.toArray[j]?=some o:=by simpa using hi
 have hd:∀ d',o.dst=some d'→d' < x.N:=by
  intro d' e
  have:=hok.2
  rw [e] at this
  simpa using this
 have htk':∀ k ∈ tk,(listed.setIfInBounds j true).getD k false=true:=fun k hk=>zm9 (htk k hk)
 unfold wpOp
 simp only [hi']
 rcases zmO (QQ:=QN x K) hd h hC with ⟨hw,hwp⟩|⟨hw,st',⟨k1,k2⟩,hC'⟩
 ·rw [if_pos hw]
  left
  refine Oper.wp_mono ?_ (ziK hwp)
  rintro a' W' ⟨⟨u,ds,rfl⟩,st',⟨k1,k2⟩,hC'⟩
  have hF':FrD ops.toArray (D.map (·.2)) (Act.put { a with defers:=ds } o.dst u):=FrD.put (FrD.defers hF) (znj hok.1 hD hop)
  have hS':=znr hD hop hC' hF' k1
  exact ⟨hS',k2 D hD hop (hcl.set hj') htk' _ W' hC' hF' hS'⟩
 ·rw [if_neg (by simp [hw])]
  have hF':FrD ops.toArray (D.map (·.2)) (a.put o.dst undef):=hF.put (znj hok.1 hD hop)
  have hS':=znr hD hop hC' hF' k1
  exact ⟨hS',k2 D hD hop (hcl.set hj') htk' _ W hC' hF' hS'⟩
theorem znt (i m:Nat) (ls:List Nat) {o:Oper} {l:List (Nat × Oper)} (hi:ops[i]?=some o) (hr:Region.ready .any ops.toArray listed=[i]) (hok:(zni ops tk o && (match o.dst with|some d=>decide (d < x.N)|none=>true))=true)
  (hls:znp ops tk (listed.setIfInBounds i true)=ls) (hp:ziW ops ls=some l)
  (h:vopM x ops st o (fun st'=>vre x.P ops st' (l.map (·.2))∧U x ops tk fuel (listed.setIfInBounds i true) st' K) m):U x ops tk (fuel+1) listed st K:=by
 refine zns i m hi hr hok ?_
 subst hls
 have e:(fun st'=>vre x.P ops st' (l.map (·.2))∧U x ops tk fuel (listed.setIfInBounds i true) st' K)=(fun st'=>znq x ops tk (listed.setIfInBounds i true) st'∧U x ops tk fuel (listed.setIfInBounds i true) st' K):=by
  funext st'
  apply propext
  constructor
  ·rintro ⟨h1,h2⟩;exact ⟨⟨l,hp,h1⟩,h2⟩
  ·rintro ⟨⟨l',hp',h1⟩,h2⟩;rw [hp] at hp';cases hp';exact ⟨h1,h2⟩
 rw [← e];exact h
theorem znu (hr:Region.ready .any ops.toArray listed=[]) (h:K st):U x ops tk fuel listed st K:=by
 unfold U
 intro D hD hop hcl htk a W hC hF hS
 match fuel with
 | 0=>exact ⟨hr,rfl,st,h,hC⟩
 | _+1=>exact ⟨fun _=>⟨rfl,st,h,hC⟩,by rw [hr];simp⟩
theorem znv {Q:Exit→St→Prop} {id:Nat} (hm:x.P.follows .mixedOrders=true) (h:U x ops [] ops.length (Array.replicate ops.length false) st fun st'=>Q .normal st'):T x st (.region id ops.toArray true) Q:=by
 unfold T
 unfold U at h
 intro a W hC
 have hcl:Closed ops.toArray (Array.replicate ops.length false):=by
  intro k o _ hk
  simp only [Array.getD_eq_getD_getElem?,Array.getElem?_replicate] at hk
  split at hk <;> cases hk
 have H:=h [] rfl (fun t ht=>by cases ht) hcl (fun k hk=>by cases hk) a _ hC.drew (fun t ht=>by cases ht) (fun t ht=>by cases ht)
 refine Code.wp_mono ?_ (wp_region_any (id:=id) (Q:=QN x fun st'=>Q .normal st') hm (znd _ _ _ _ H))
 rintro e a' W' ⟨rfl,st',hq,hC'⟩
 exact ⟨st',hq,hC'⟩
end
@[go_sem] theorem znw {tk:List Nat}:tkA [] tk=tk:=rfl
@[go_sem] theorem znx {i:Nat} {l tk:List Nat}:tkA (i :: l) tk=tkA l (i :: tk):=rfl
@[congr] theorem zny {x:Cx} {ops:List Oper} {tk:List Nat} {fuel:Nat} {listed:Array Bool} {st st':St} {K:St→Prop} (h:st=st'):U x ops tk fuel listed st K=U x ops tk fuel listed st' K:=by rw [h]
theorem U_1 {x:Cx} {ops:List Oper} {tk:List Nat} {fuel:Nat} {listed:Array Bool} {st:St} {K:St→Prop} (i m:Nat) (ls:List Nat) {o:Oper} {l:List (Nat × Oper)} (hi:ops[i]?=some o) (hp:ziW ops ls=some l)
  (h:vopM x ops st o (fun st'=>vre x.P ops st' (l.map (·.2))∧U x ops tk fuel (listed.setIfInBounds i true) st' K) m) (hr:Region.ready .any ops.toArray listed=[i]:=by kernel_rfl) (hok:(zni ops tk o && (match o.dst with|some d=>decide (d < x.N)|none=>true))=true:=by kernel_rfl)
  (hls:znp ops tk (listed.setIfInBounds i true)=ls:=by kernel_rfl):U x ops tk (fuel+1) listed st K:=znt i m ls hi hr hok hls hp h
theorem U_t {x:Cx} {ops:List Oper} {tk:List Nat} {fuel:Nat} {listed:Array Bool} {st:St} {K:St→Prop} (is:List Nat) {l:List (Nat × Oper)} (hp:ziW ops is=some l)
  (h:vops x.P ops (l.map (·.2)) st fun st'=>U x ops (tkA (l.map (·.1)) tk) (fuel - l.length) (zi0 l listed) st' K) (hok:znm ops x.N l fuel listed tk=true:=by kernel_rfl):U x ops tk fuel listed st K:=zno is hp hok h
theorem U_d {x:Cx} {ops:List Oper} {tk:List Nat} {fuel:Nat} {listed:Array Bool} {st:St} {K:St→Prop} (h:K st) (hr:Region.ready .any ops.toArray listed=[]:=by kernel_rfl):U x ops tk fuel listed st K:=znu hr h
end Go.SL
