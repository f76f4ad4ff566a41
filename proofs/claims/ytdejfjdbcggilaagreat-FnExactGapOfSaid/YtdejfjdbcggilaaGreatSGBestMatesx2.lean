/- Plain theorems about the model. -/
import Derived.Laws.Strings
import Derived.WideShapes
import Derived.Test.YtdejfjdbcggilaaGreatSGBestMatesx1
set_option linter.unusedVariables false
set_option linter.unusedSimpArgs false
set_option maxRecDepth 4000
open Nat renaming reduceAdd → jq, reduceMul → jj, reduceBEq → jy, reduceLeDiff → jv, reduceLT → jk, reduceEqDiff → jx
open Bool renaming or_eq_false_iff → jp, or_eq_true → jQ, and_eq_true → jJ
open Int renaming toNat_natCast → jW, natCast_nonneg → jY
namespace Go.SL
open Go Go.RowKit
@[irreducible] def Cw (P:Program) (f:FuncId) (args:List Value) (h:Hp) (M:Nat→Prop) (R:Value→Hp→Prop):Prop :=
 (∀ A W,(callFunc f A).run P W=.ok (.enter f A) W) ∧
 ∀ W,Sees h W→Calls P f args.toArray W fun e W'=>∃ v h',e=.returned v∧R v h' ∧
  (W'.os=W.os∧W'.tape=W.tape∧W'.output=W.output∧W.heap.size≤W'.heap.size∧∀ k,k < W.heap.size→¬ M k→W'.heap[k]?=W.heap[k]?) ∧
  (∀ b o,h b=some o→¬ M b→h' b=some o)∧Sees h' W'∧∀ b o,h' b=some o→h b=none→W.heap.size≤b
theorem zlI {P:Program} {f:FuncId} {fn:Func} {c:Code} {args:List Value} {h:Hp} {M:Nat→Prop} {R:Value→Hp→Prop} {rs:List ResultVar} (hcall:∀ A W,(callFunc f A).run P W=.ok (.enter f A) W) (hf:P.funcs[f]?=some fn) (hb:fn.body=some c) (hrs:fn.results=rs.toArray)
  (hN:args.length≤fn.ntmps) (hM:∀ b,M b→h b ≠ none)
  (H:∀ W0:Base,(∀ b,M b→W0.own b)→T ⟨P,W0,h,fn.ntmps⟩ ⟨zdk 0 args,[],h,0⟩ c fun e st=>match e with
   | .normal=>zdg P st rs fun vs=>R (zdh vs) st.h
   | .ret=>zdg P st rs fun vs=>R (zdh vs) st.h
   | _=>False):Cw P f args h M R:=by
 unfold Cw
 refine ⟨hcall,fun W hs=>calls_of_wp hf hb ?_⟩
 have hin:∀ b o,h b=some o→b < W.heap.size:=fun b o hb=>(Array.getElem?_eq_some_iff.1 (hs b o hb)).1
 have H:=H ⟨W,fun g=>W.heap.size≤g∨M g,fun _ x=>.inl x⟩ (fun b hb=>.inr hb)
 unfold T at H
 refine Code.wp_mono ?_ (H _ W ⟨fun _=>undef,⟨rfl,by simp;omega,fun t cc sv hl=>?_⟩,⟨⟨rfl,rfl,rfl,Nat.le_refl _,fun _ _=>rfl⟩,hs,fun b o x _=>x,fun b o h1 h2=>?_,fun r b g hr=>(by cases hr),fun r b hr=>(by cases hr),fun r b g hr=>(by cases hr),fun r b r' b' g hr=>(by cases hr)⟩,?_⟩)
 ·rintro e a' W' ⟨st',hq,⟨ρ,hfo,hW,hw⟩⟩
  have fin:(zdg P st' rs fun vs=>R (zdh vs) st'.h)→a'.defers=[]∧∃ v,(results fn a'.tmps).run P W'=.ok v W'∧∃ v' h',Ending.returned v=.returned v'∧R v' h'∧(W'.os=W.os∧W'.tape=W.tape∧W'.output=W.output∧W.heap.size≤W'.heap.size∧∀ k,k < W.heap.size→¬ M k→W'.heap[k]?=W.heap[k]?)∧(∀ b o,h b=some o→¬ M b→h' b=some o)∧Sees h' W'∧∀ b o,h' b=some o→h b=none→W.heap.size≤b:=by
   intro hres
   obtain ⟨vs,hk,hrun⟩:=zdj (P:=P) (W0:=⟨W,fun g=>W.heap.size≤g∨M g,fun _ x=>.inl x⟩) (h0:=h) (N:=fn.ntmps) hw hres
   refine ⟨hfo.1,zdh vs,?_,_,_,rfl,hk,⟨hW.below.os,hW.below.tape,hW.below.output,hW.below.size,fun k hk hn=>hW.below.block k (fun x=>x.elim (Nat.not_le_of_lt hk) hn)⟩,fun b o hb hn=>hW.ext b o hb (fun x=>x.elim (Nat.not_le_of_lt (hin b o hb)) hn),hW.sees,fun b o h1 h2=>?_⟩
   ·have h1:(rs.toArray.toList.mapM (m:=Sem) fun
     | .tmp t=>pure (a'.tmps.getD t undef)
     | .cell ad t=>do loadVar t (← asAddr (a'.tmps.getD ad undef))).run P W'=.ok vs W':=hrun ρ a' W' hfo hW
    unfold results
    rw [hrs,Sem.run_bind,Array.mapM_eq_mapM_toList]
    have e:∀ m:Sem (List Value),(List.toArray <$> m)=m >>= fun l=>pure l.toArray:=fun _=>rfl
    rw [e,Sem.run_bind]
    refine Eq.trans (congrArg (fun (r:Result (List Value))=>(r.andThen fun a w'=>Sem.run P (pure a.toArray) w').andThen fun a w'=>Sem.run P (pure (if h:a.size=1 then a[0] else Value.tuple a)) w') h1) ?_
    simp only [Result.andThen_ok,Sem.run_pure]
    match vs with
    | []=>rfl
    | [v]=>rfl
    | _ :: _ :: _=>rfl
   ·rcases hW.new b o h1 h2 with hx|hx
    ·exact hx
    ·exact (hM b hx h2).elim
  cases e with
  | normal=>exact fin hq
  | ret=>exact fin hq
  | _=>exact hq.elim
 ·obtain ⟨j,v,h1,h2,rfl,rfl⟩:=zdl hl
  have hj:j < args.length:=(List.getElem?_eq_some_iff.1 h2).1
  rw [if_pos rfl,SV.conc_of,h1,Nat.zero_add]
  have:=(List.getElem?_eq_some_iff.1 h2).2
  simp [Array.getElem?_append,hj,this]
 ·exact absurd (h1.symm.trans h2) (by simp)
 ·simp [St.wf,zdm,pbLt]
theorem WOk.wrote {W0:Base} {h0:Hp} {ρ:Rho} {p:List (Nat × PB)} {h h':Hp} {W W':World} {M:Nat→Prop} (hW:WOk W0 h0 ρ p h W)
  (hb:W'.os=W.os∧W'.tape=W.tape∧W'.output=W.output∧W.heap.size≤W'.heap.size∧∀ k,k < W.heap.size→¬ M k→W'.heap[k]?=W.heap[k]?)
  (hM:∀ b,M b→h b ≠ none∧W0.own b) (hk:∀ b o,h b=some o→¬ M b→h' b=some o) (hs:Sees h' W') (hn:∀ b o,h' b=some o→h b=none→W.heap.size≤b):WOk W0 h0 ρ p h' W':=by
 have hpr:∀ r b g,look r p=some b→PB.at ρ r g→¬ M g:=fun r b g hr hat hm=>(hM g hm).1 (hW.apart r b g hr hat)
 refine ⟨hW.below.step hb.1 hb.2.1 hb.2.2.1 hb.2.2.2.1 fun k hk hlt=>hb.2.2.2.2 k hlt (fun hm=>hk (hM k hm).2),hs,fun b o h1 h2=>hk b o (hW.ext b o h1 h2) (fun hm=>h2 (hM b hm).2),fun b o hb' h0b=>?_,hW.own,fun r b hr=>?_,fun r b g hr hat=>?_,hW.distinct⟩
 ·cases hh:h b with
  | some o'=>exact hW.new b o' hh h0b
  | none=>exact W0.big b (Nat.le_trans hW.below.size (hn b o hb' hh))
 ·exact PB.ok_keep (hW.priv r b hr) fun g hg=>hb.2.2.2.2 g (PB.ok_lt (hW.priv r b hr) hg).2 (hpr r b g hr hg)
 ·cases hh:h' g with
  | none=>rfl
  | some o =>
   have h1:=hn g o hh (hW.apart r b g hr hat)
   have h2:=(PB.ok_lt (hW.priv r b hr) hat).2
   omega
@[irreducible] def vfnW (x:Cx) (st:St) (f:FuncId) (args:List Value) (K:Value→Hp→Prop):Prop :=
 ∃ M R,Cw x.P f args st.h M R∧(∀ b,M b→st.h b ≠ none∧(x.h0 b=none∨x.W0.own b))∧∀ v h',(∀ b o,st.h b=some o→¬ M b→h' b=some o)→(∀ b,h' b ≠ none→st.h b=none→x.W0.own b)→R v h'→K v h'
theorem zlJ {x:Cx} {st:St} {f:FuncId} {args:List Value} {K:Value→Hp→Prop} {M:Nat→Prop} {R:Value→Hp→Prop} {h:Hp} (H:Cw x.P f args h M R) (hh:st.h=h) (hM:∀ b,M b→h b ≠ none∧(x.h0 b=none∨x.W0.own b))
  (hk:∀ v h',(∀ b o,h b=some o→¬ M b→h' b=some o)→R v h'→K v h'):vfnW x st f args K:=by
 unfold vfnW;subst hh;exact ⟨M,R,H,hM,fun v h' k1 _ k2=>hk v h' k1 k2⟩
def zlK (x:Cx) (st:St) (vf:SV) (vs:List SV) (K:Value→Hp→Prop):Prop :=
 match vf with
 | .c (.v (.func (.func f) fs cs))=>(vs.all (·.plain))=true∧vfnW x st f (fs.toList ++ (vs.map (·.pv) ++ cs.toList)) K
 | _=>False
def zlL (x:Cx) (st:St) (t:TypeId) (a y:SV) (K:Hp→Prop):Prop :=
 hasT x.P t=true∧y.plain=true∧(y.cells.all fun c=>c.val.oneCell')=true∧y.cells.length=szT x.P t∧∃ b off cur e,a=.c (.v (.pointer (some ⟨b,off,none⟩)))∧st.h b=some (.cells cur e (0,0))∧(x.h0 b=none∨x.W0.own b)∧off+szT x.P t≤cur.size ∧
  K (st.h.ins b (.cells (zbG off (y.cells.map (·.val)) cur.toList).toArray e (0,0)))
def vopX (x:Cx) (st:St) (o:Oper) (K:St→Prop):Prop :=
 o.guard=none∧match o.op with
 | .call c=>(match c.callee with
  | .value f=>getO st true f fun vf=>zaC st true c.args.toList fun vs=>zlK x st vf vs fun v h'=>K (St.mk (zb5 st.e o.dst true (.of v)) st.p h' st.nx)
  | _=>False)
 | .buildSlice t n ps=>zcl x.P st o t n ps K
 | .store t a y=>o.dst=none∧getO st true a fun va=>getO st true y fun vy=>zlL x st t va vy fun h'=>K (St.mk st.e st.p h' st.nx)
 | .makeFunc fn fs cs=>zaC st true fs.toList fun us=>zaC st true cs.toList fun vs=>(us.all (·.plain))=true∧(vs.all (·.plain))=true∧K (St.mk (zb5 st.e o.dst true (.c (.v (.func fn (us.map (·.pv)).toArray (vs.map (·.pv)).toArray)))) st.p st.h st.nx)
 | _=>False
def vpub (st:St) (d:Option Nat) (K:St→Prop):Prop :=
 onD d fun t=>match look t st.e with
  | some (true,.c (.s r))=>(match look r st.p with
   | some (.row e sz n xs)=>∀ ad cap h',Pub st.h e sz n xs ad cap h'→K (st.sub r (.slice ad n cap) h')
   | _=>False)
  | _=>False
def zlM (x:Cx) (ops:List Oper) (K:St→Prop):List Nat→List Oper→St→Prop
 | [],l,st=>vops x.P ops l st K
 | 0 :: bs,o :: l,st=>vop x.P ops st o fun st'=>zlM x ops K bs l st'
 | 1 :: bs,o :: l,st=>vopX x st o fun st'=>zlM x ops K bs l st'
 | _ :: bs,o :: l,st=>vop x.P ops st o fun st'=>vpub st' o.dst fun st'=>zlM x ops K bs l st'
 | _ :: _,[],_=>False
section
variable {x:Cx} {st:St} {Q:Exit→St→Prop}
theorem zlN {vf:SV} {vs:List SV} {K:Value→Hp→Prop} (h:zlK x st vf vs K):∃ fn fs cs,vf=.c (.v (.func (.func fn) fs cs)):=by
 unfold zlK at h
 split at h
 ·exact ⟨_,_,_,rfl⟩
 ·exact h.elim
theorem Conc.own_new {W0:Base} {h0:Hp} {ρ:Rho} {p:List (Nat × PB)} {h:Hp} {W:World} (hW:WOk W0 h0 ρ p h W) {b:Nat} (h1:h b ≠ none) (h2:h0 b=none∨W0.own b):W0.own b:=by
 rcases h2 with h2|h2
 ·cases hh:h b with
  | none=>exact (h1 hh).elim
  | some o=>exact hW.new b o hh h2
 ·exact h2
theorem zlO {o:Oper} {K:St→Prop} {QQ:Exit→Act→World→Prop} {a:Act} {W:World} (hd:∀ d',o.dst=some d'→d' < x.N) (h:vopX x st o K) (hC:Conc x.W0 x.h0 x.N st a W) :
  (∀ tm,Region.wanted o tm=true)∧o.wp x.P a W (fun a' W'=>∃ st',K st'∧Conc x.W0 x.h0 x.N st' a' W') QQ:=by
 obtain ⟨ρ,hf,hW,hw⟩:=hC
 obtain ⟨hg,h⟩:=h
 refine ⟨fun tm=>by simp [Region.wanted,hg],?_⟩
 split at h
 ·rename_i c ho
  split at h
  ·rename_i f hc
   obtain ⟨vf,h,_,hvf⟩:=zaB (N:=x.N) hw h
   obtain ⟨vs,h,_,_,hvs⟩:=zaD (N:=x.N) hw h
   obtain ⟨fn,fs,cs,rfl⟩:=zlN h
   obtain ⟨hp,h⟩:=h
   unfold vfnW at h
   obtain ⟨M,R,hfn,hM,hk⟩:=h
   unfold Cw at hfn
   obtain ⟨hcall,hcalls⟩:=hfn
   replace hvf:=hvf rfl ρ a hf
   replace hvs:=hvs rfl ρ a hf
   rw [SV.mapconc hp] at hvs
   have hrun:(execOp a.eval o).run x.P W=.ok (.enter fn (fs.toList ++ (vs.map (·.pv) ++ cs.toList)).toArray) W:=by
    obtain ⟨callee,args,ats⟩:=c
    simp only at hc hvs
    subst hc
    have e1:args.map a.eval=(vs.map (·.pv)).toArray:=Array.toList_inj.1 (by rw [Array.toList_map,hvs])
    simp only [execOp,ho]
    simp only [resolve,hvf,zak,zah,e1,Sem.run_bind,Deferred.ofValue,Sem.run_pure,Result.andThen_ok,invoke]
    rw [hcall]
    congr 3
    apply Array.toList_inj.1
    simp
   unfold Oper.wp
   rw [hrun]
   simp only [Oper.upon]
   refine (hcalls W hW.sees).mono ?_
   rintro e W' ⟨v,h',rfl,hR,hb,hkeep,hs,hn⟩
   exact ⟨_,hk v h' hkeep (fun b h1 h2=>by
    cases hh:h' b with
    | none=>exact (h1 hh).elim
    | some o=>exact x.W0.big b (Nat.le_trans hW.below.size (hn b o hh h2))) hR,Conc.put_ (c:=true) hf (hW.wrote hb (fun b hb=>⟨(hM b hb).1,Conc.own_new hW (hM b hb).1 (hM b hb).2⟩) hkeep hs hn) (wf_p hw) (wf_e hw) hd (SV.of_lt _ _) (by simp [SV.conc_of])⟩
  ·exact h.elim
 ·rename_i t n ps ho
  obtain ⟨v,W',hr,hk⟩:=zcM ho hw hd hf hW h
  unfold Oper.wp
  rw [hr]
  exact hk
 ·rename_i t ea ey ho
  obtain ⟨hn,h⟩:=h
  obtain ⟨va,h,_,hx⟩:=zaB (N:=x.N) hw h
  obtain ⟨vy,h,hly,hy⟩:=zaB (N:=x.N) hw h
  obtain ⟨ht,hpl,hone,hlen,b,off,cur,e,rfl,hb,hown,hle,hk⟩:=h
  replace hx:=hx rfl ρ a hf
  replace hy:=hy rfl ρ a hf
  have hbo:x.W0.own b:=Conc.own_new hW (by rw [hb];simp) hown
  have hvals:vy.cells.map (·.conc ρ)=vy.cells.map (·.val):=SV.plain_cells hpl ρ
  have hcell:(vy.conc ρ).cells=(vy.cells.map (·.val)).toArray:=by
   rw [← hvals]
   rcases SV.cells_conc ρ vy with h|⟨r,rfl⟩
   ·exact h
   ·exact absurd hpl (by simp [SV.plain,zb7])
  have hr:=zcD (P:=x.P) (t:=t) (o:=off) (vs:=vy.cells.map (·.val)) ht hcell (by simpa using hlen) (hW.sees _ _ hb) (by simp [hlen];omega) (fun u hu=>by
   obtain ⟨c,hc,rfl⟩:=List.mem_map.1 hu
   exact List.all_eq_true.1 hone c hc)
  have hrun:(execOp a.eval o).run x.P W=.ok .skip (W.setRow b (zbG off (vy.cells.map (·.val)) cur.toList).toArray):=by
   simp only [execOp,ho,hx,hy,zak,zah]
   simp [Sem.run_bind,hr]
  unfold Oper.wp
  rw [hrun]
  have hother:∀ k,k ≠ b→(W.setRow b (zbG off (vy.cells.map (·.val)) cur.toList).toArray).heap[k]?=W.heap[k]?:=fun k hk=>setRow_other W b k _ hk
  refine ⟨_,hk,ρ,by simpa [Act.put,hn] using hf,hW.wrote (M:=fun k=>k=b) ⟨rfl,rfl,rfl,by simp [World.setRow],fun k _ hk=>hother k hk⟩ (fun k hk=>by subst hk;exact ⟨by rw [hb];simp,hbo⟩) (fun k o hk hne=>by simp only [Hp.ins,if_neg hne];exact hk) (fun k o hko=>?_) (fun k o h1 h2=>?_),hw⟩
  ·simp only [Hp.ins] at hko
   split at hko
   ·rename_i e';subst e';injection hko with hko;subst hko;exact setRow_heap W _ _ _ _ _ (hW.sees _ _ hb)
   ·rename_i hne;rw [hother k hne];exact hW.sees k o hko
  ·simp only [Hp.ins] at h1
   split at h1
   ·rename_i e';subst e';rw [hb] at h2;cases h2
   ·rw [h2] at h1;cases h1
 ·rename_i fn fs cs ho
  obtain ⟨us,h,_,_,hus⟩:=zaD (N:=x.N) hw h
  obtain ⟨vs,h,_,_,hvs⟩:=zaD (N:=x.N) hw h
  obtain ⟨hp1,hp2,hk⟩:=h
  replace hus:=hus rfl ρ a hf
  replace hvs:=hvs rfl ρ a hf
  rw [SV.mapconc hp1] at hus
  rw [SV.mapconc hp2] at hvs
  have e1:fs.map a.eval=(us.map (·.pv)).toArray:=Array.toList_inj.1 (by rw [Array.toList_map,hus])
  have e2:cs.map a.eval=(vs.map (·.pv)).toArray:=Array.toList_inj.1 (by rw [Array.toList_map,hvs])
  have hrun:(execOp a.eval o).run x.P W=.ok (.value (.func fn (us.map (·.pv)).toArray (vs.map (·.pv)).toArray)) W:=by
   simp only [execOp,ho,e1,e2]
   simp [Sem.run_bind,Instr.makeFunc]
  unfold Oper.wp
  rw [hrun]
  exact ⟨_,hk,Conc.put_ (c:=true) hf hW (wf_p hw) (wf_e hw) hd rfl (by simp)⟩
 ·exact h.elim
theorem zlP {d:Option Nat} {K:St→Prop} {a:Act} {W:World} (h:vpub st d K) (hC:Conc x.W0 x.h0 x.N st a W):∃ st',K st'∧Conc x.W0 x.h0 x.N st' a W:=by
 unfold vpub onD at h
 split at h
 ·split at h
  ·split at h
   ·rename_i hr
    obtain ⟨ad,cap,h',hp,hC'⟩:=hC.pub hr
    exact ⟨_,h ad cap h' hp,hC'⟩
   ·exact h.elim
  ·exact h.elim
 ·exact h.elim
theorem zlQ {ops:List Oper} {K:St→Prop} {QQ:Exit→Act→World→Prop} (hQ:∀ st' a' W',K st'→Conc x.W0 x.h0 x.N st' a' W'→QQ .normal a' W'):∀ {bs:List Nat} {l:List Oper} {st:St} {a:Act} {W:World},zcZ x.N l=true→zlM x ops K bs l st→Conc x.W0 x.h0 x.N st a W →
  wpList x.P ops.toArray QQ l a W
 | [],l,st,a,W,hd,h,hC=>by
  have h:vops x.P ops l st K:=by cases l <;> exact h
  exact zc0 hd hQ h hC
 | b :: bs,[],st,a,W,hd,h,hC=>by
  match b,h with
  | 0,h=>exact h.elim
  | 1,h=>exact h.elim
  | b+2,h=>exact h.elim
 | b :: bs,o :: l,st,a,W,hd,h,hC=>by
  simp only [zcZ,jJ] at hd
  have hd1:∀ d',o.dst=some d'→d' < x.N:=by
   intro d' e
   have:=hd.1
   rw [e] at this
   simpa using this
  have gen:∀ {K':St→Prop},vop x.P ops st o K'→(∀ st' a' W',K' st'→Conc x.W0 x.h0 x.N st' a' W'→∃ st'',zlM x ops K bs l st''∧Conc x.W0 x.h0 x.N st'' a' W')→wpList x.P ops.toArray QQ (o :: l) a W:=by
   intro K' h hn
   have:=zcY (Q:=QQ) hd1 h hC
   simp only [wpList]
   rcases this with ⟨hw,hwp⟩|⟨hw,st',hk,hC'⟩
   ·rw [if_pos hw]
    left
    refine Oper.wp_mono ?_ hwp
    rintro a' W' ⟨st',hk,hC'⟩
    obtain ⟨st'',hk,hC''⟩:=hn st' a' W' hk hC'
    exact zlQ hQ hd.2 hk hC''
   ·rw [if_neg (by simp [hw])]
    obtain ⟨st'',hk,hC''⟩:=hn st' _ W hk hC'
    exact zlQ hQ hd.2 hk hC''
  match b,h with
  | 0,h=>exact gen h fun st' a' W' hk hC'=>⟨st',hk,hC'⟩
  | 1,h =>
   obtain ⟨hw,hwp⟩:=zlO (QQ:=QQ) hd1 h hC
   simp only [wpList]
   rw [if_pos (hw _)]
   left
   refine Oper.wp_mono ?_ hwp
   rintro a' W' ⟨st',hk,hC'⟩
   exact zlQ hQ hd.2 hk hC'
  | b+2,h=>exact gen h fun st' a' W' hk hC'=>zlP hk hC'
theorem zlR {id:Nat} {ops:List Oper} (n:List Nat) (hd:zcZ x.N ops=true) (h:zlM x ops (fun st'=>Q .normal st') n ops st):T x st (.region id ops.toArray false) Q:=by
 unfold T
 intro a W hC
 exact wp_region_lit (zlQ (fun st' a' W' hk hC'=>⟨st',hk,hC'⟩) hd h hC)
theorem zlS {id:Nat} {ops:List Oper} {d:Code} (n:List Nat) (hd:zcZ x.N ops=true) (h:zlM x ops (fun st'=>T x st' d Q) n ops st):T x st (.seq (.region id ops.toArray false) d) Q :=
 zc3 (zlR n hd h)
def St.leF (h0:Hp) (st st':St):Prop:=leE st.e st'.e∧leP st.p st'.p∧st'.h.le st.h∧h0.le st'.h∧st'.wf=true
end
attribute [irreducible] zlL
section
variable {x:Cx} {st:St} {o:Oper} {l ops:List Oper} {bs:List Nat} {K:St→Prop} {KV:Value→Hp→Prop} {KH:Hp→Prop}
@[go_sem] theorem zlT:zlM x ops K [] l st=vops x.P ops l st K:=by cases l <;> rfl
@[go_sem] theorem zlU:zlM x ops K (1 :: bs) (o :: l) st=vopX x st o fun st'=>zlM x ops K bs l st':=rfl
@[go_sem] theorem zlV:zlM x ops K (0 :: bs) (o :: l) st=vop x.P ops st o fun st'=>zlM x ops K bs l st':=rfl
@[go_sem] theorem zlW:zlM x ops K (2 :: bs) (o :: l) st=vop x.P ops st o fun st'=>vpub st' o.dst fun st'=>zlM x ops K bs l st':=rfl
@[go_sem] theorem zlX {d:Option Nat}:vpub st d K=onD d fun t=>match look t st.e with
  | some (true,.c (.s r))=>(match look r st.p with
   | some (.row e sz n xs)=>∀ ad cap h',Pub st.h e sz n xs ad cap h'→K (st.sub r (.slice ad n cap) h')
   | _=>False)
  | _=>False:=rfl
@[go_sem] theorem zlY {d:Option Nat} {f:Operand} {args:Array Operand} {ats:Array TypeId} {t:TypeId} {p:String} {af:Array Edge}:vopX x st ⟨d,.call ⟨.value f,args,ats⟩,t,p,af,none⟩ K=getO st true f fun vf=>zaC st true args.toList fun vs=>zlK x st vf vs fun v h'=>K (St.mk (zb5 st.e d true (.of v)) st.p h' st.nx):=by
 unfold vopX;simp
@[go_sem] theorem zlZ {a y:Operand} {tt t:TypeId} {p:String} {af:Array Edge}:vopX x st ⟨none,.store tt a y,t,p,af,none⟩ K=getO st true a fun va=>getO st true y fun vy=>zlL x st tt va vy fun h'=>K (St.mk st.e st.p h' st.nx):=by
 unfold vopX;simp
@[go_sem] theorem zl0 {d:Option Nat} {fn:Fn} {fs cs:Array Operand} {t:TypeId} {p:String} {af:Array Edge}:vopX x st ⟨d,.makeFunc fn fs cs,t,p,af,none⟩ K=zaC st true fs.toList fun us=>zaC st true cs.toList fun vs=>(us.all (·.plain))=true∧(vs.all (·.plain))=true∧K (St.mk (zb5 st.e d true (.c (.v (.func fn (us.map (·.pv)).toArray (vs.map (·.pv)).toArray)))) st.p st.h st.nx):=by
 unfold vopX;simp
@[go_sem] theorem zl1 {d:Option Nat} {tt t:TypeId} {n:Nat} {ps:List (Nat × Operand)} {p:String} {af:Array Edge}:vopX x st ⟨d,.buildSlice tt n ps.toArray,t,p,af,none⟩ K=zaC st true (ps.map (·.2)) fun vs=>zcc x.P tt fun e=>0 < szT x.P e∧zca x.P e fun z=>z.length=szT x.P e∧n * szT x.P e≤16777216∧ps.length=n∧zcb (szT x.P e) 0 (ps.map (·.1)) vs ∧
   ∀ b,st.h b=none→K (St.mk (zb5 st.e d true (.c (.v (.slice (some ⟨b,0,none⟩) n n)))) st.p (st.h.ins b (.cells (vs.flatMap fun x=>x.cells.map (·.val)).toArray e (0,0))) st.nx):=by
 unfold vopX;simp [zcl]
@[go_sem] theorem zl2 {f:FuncId} {fs cs:Array Value} {vs:List SV}:zlK x st (.c (.v (.func (.func f) fs cs))) vs KV=((vs.all (·.plain))=true∧vfnW x st f (fs.toList ++ (vs.map (·.pv) ++ cs.toList)) KV):=rfl
def spl (o:Nat) (new cs:List Value):List Value:=zbG o new cs
theorem zl3 {t:TypeId} {b off:Nat} {u:Value} {cur:Array Value} {e:TypeId} (ht:hasT x.P t=true) (hs:szT x.P t=1) (hu:SV.cells (.c (.v u))=[.v u]) (h1:u.oneCell'=true) (hb:st.h b=some (.cells cur e (0,0))) (hown:x.h0 b=none∨x.W0.own b) (hle:off+1≤cur.size)
  (hk:KH (st.h.ins b (.cells (spl off [u] cur.toList).toArray e (0,0)))):zlL x st t (.c (.v (.pointer (some ⟨b,off,none⟩)))) (.c (.v u)) KH:=by
 unfold zlL
 refine ⟨ht,rfl,by simp [hu,SC.val,h1],by simp [hu,hs],b,off,cur,e,rfl,hb,hown,by omega,?_⟩
 unfold spl at hk
 simpa [hu,SC.val] using hk
theorem Hp.ins_same {h:Hp} {b:Nat} {o:Obj}:h.ins b o b=some o:=by simp [Hp.ins]
theorem Hp.ins_ins {h:Hp} {b:Nat} {o o':Obj}:(h.ins b o).ins b o'=h.ins b o':=by
 funext i;simp only [Hp.ins];split <;> rfl
theorem Hp.ins_ne {h:Hp} {b i:Nat} {o:Obj} (hi:i ≠ b):h.ins b o i=h i:=by simp [Hp.ins,hi]
end
open Go Go.RowKit
theorem zl4 {h h':Hp} {a:Addr} {n:Nat} {l:List Value} (hk:∀ o,h a.block=some o→h' a.block=some o) (e:h.lds (some a) n=some l):h'.lds (some a) n=some l:=by
 obtain ⟨h1,h2⟩:=zac e
 refine zad h1 fun j v hj=>?_
 have:=h2 j v hj
 unfold Hp.cell at this ⊢
 have hb:(a.add (0+j)).block=a.block:=by unfold Addr.add;split <;> rfl
 rw [hb] at this ⊢
 split at this
 ·rename_i c _ _ hh
  rw [hk _ hh]
  exact this
 ·cases this
class Foot (α:Type) [Enc α] where
 foot:α→List Nat
 own:Hp→α→Prop
 loc:∀ {h h':Hp} {x:α},Enc.ok h x→own h x→(∀ b ∈ foot x,∀ o,h b=some o→h' b=some o)→Enc.ok h' x∧own h' x
 dom:∀ {h:Hp} {x:α},own h x→∀ b ∈ foot x,h b ≠ none
def Sl.blkOf {α:Type} (s:Sl α):Nat:=match s.a with|some a=>a.block|none=>0
def Sl.own {α:Type} [Enc α] [Foot α] (h:Hp) (s:Sl α):Prop :=
 s.l ≠ []→(∃ g cur e,s.a=some ⟨g,0,none⟩∧h g=some (.cells cur e (0,0))∧cur.size=s.cap * Enc.size α)∧∀ x ∈ s.l,Foot.own h x
def Sl.foot {α:Type} [Enc α] [Foot α] (s:Sl α):List Nat:=match s.l with|[]=>[]|_ :: _=>s.blkOf :: s.l.flatMap Foot.foot
theorem Sl.foot_ne {α:Type} [Enc α] [Foot α] {s:Sl α} (h:s.l ≠ []):s.foot=s.blkOf :: s.l.flatMap Foot.foot:=by
 unfold Sl.foot
 split
 ·rename_i e;exact (h e).elim
 ·rfl
theorem Sl.foot_nil {α:Type} [Enc α] [Foot α] {s:Sl α} (h:s.l=[]):s.foot=[]:=by
 unfold Sl.foot;rw [h]
instance {α:Type} [Enc α] [Foot α]:Foot (Sl α) where
 foot:=Sl.foot
 own:=Sl.own
 loc {h h' s} hok hown hk:=by
  have hok:s.Ok h:=hok
  by_cases hl:s.l=[]
  ·exact ⟨(show Sl.Ok h' s from ⟨hok.1,hok.2.1,fun i x hx=>(by rw [hl] at hx;simp at hx),fun x hx=>(by rw [hl] at hx;cases hx),hok.2.2.2.2⟩),fun hne=>(hne hl).elim⟩
  ·obtain ⟨⟨g,cur,e,ha,hb,hsz⟩,hx⟩:=hown hl
   have hfoot:Sl.foot s=s.blkOf :: s.l.flatMap Foot.foot:=Sl.foot_ne hl
   have hbo:s.blkOf=g:=by unfold Sl.blkOf;rw [ha]
   have hg:∀ o,h g=some o→h' g=some o:=hk g (by show g ∈ Sl.foot s;rw [hfoot,hbo];exact List.mem_cons_self ..)
   have hel:∀ x ∈ s.l,Enc.ok h' x∧Foot.own h' x:=fun x hm=>Foot.loc (hok.2.2.2.1 x hm) (hx x hm) fun b hb=>hk b (by
    show b ∈ Sl.foot s
    rw [hfoot];exact List.mem_cons_of_mem _ (List.mem_flatMap.2 ⟨x,hm,hb⟩))
   refine ⟨(show Sl.Ok h' s from ⟨hok.1,hok.2.1,fun i x hi=>?_,fun x hm=>(hel x hm).1,hok.2.2.2.2⟩),fun _=>⟨⟨g,cur,e,ha,hg _ hb,hsz⟩,fun x hm=>(hel x hm).2⟩⟩
   have:=hok.2.2.1 i x hi
   rw [ha] at this ⊢
   refine zl4 (fun o ho=>?_) this
   have hb:((⟨g,0,none⟩:Addr).add (i * Enc.size α)).block=g:=by unfold Addr.add;split <;> rfl
   rw [hb] at ho ⊢
   exact hg o ho
 dom {h s} hown b hb:=by
  by_cases hl:s.l=[]
  ·rw [Sl.foot_nil hl] at hb;cases hb
  ·obtain ⟨⟨g,cur,e,ha,hbk,hsz⟩,hx⟩:=hown hl
   rw [Sl.foot_ne hl] at hb
   rcases List.mem_cons.1 hb with rfl|hb
   ·have hbo:s.blkOf=g:=by unfold Sl.blkOf;rw [ha]
    rw [hbo,hbk];simp
   ·obtain ⟨x,hm,hb⟩:=List.mem_flatMap.1 hb
    exact Foot.dom (hx x hm) b hb
instance:Foot Int:=⟨fun _=>[],fun _ _=>True,fun H _ _=>⟨H,trivial⟩,fun _ b hb=>by cases hb⟩
def Mine {α:Type} [Enc α] [Foot α] (h h':Hp) (x:α):Prop:=Foot.own h' x∧(∀ b ∈ Foot.foot x,h b=none)∧(Foot.foot x).Nodup
theorem Mine.back {α:Type} [Enc α] [Foot α] {h0 h h':Hp} {x:α} (hle:h0.le h) (H:Mine h h' x):Mine h0 h' x :=
 ⟨H.1,fun b hb=>by
  cases hh:h0 b with
  | none=>rfl
  | some o=>rw [← H.2.1 b hb,hle b o hh],H.2.2⟩
theorem Mine.on {α:Type} [Enc α] [Foot α] {h h' h2:Hp} {x:α} (hle:h'.le h2) (hok:Enc.ok h' x) (H:Mine h h' x):Mine h h2 x :=
 ⟨(Foot.loc hok H.1 fun b _ o ho=>hle b o ho).2,H.2.1,H.2.2⟩
theorem Mine.flat {α:Type} [Enc α] [Foot α] {h h':Hp} {x:α} (hf:Foot.foot x=[]) (ho:Foot.own h' x):Mine h h' x:=⟨ho,fun b hb=>(by rw [hf] at hb;cases hb),by rw [hf];exact List.nodup_nil⟩
theorem Mine.nil {α:Type} [Enc α] [Foot α] {h h':Hp} {a:Option Addr} {c:Nat}:Mine h h' (⟨a,c,[]⟩:Sl α):=Mine.flat rfl fun h=>(h rfl).elim
def Mines {α:Type} [Enc α] [Foot α] (h h':Hp) (l:List α):Prop:=(∀ x ∈ l,Foot.own h' x)∧(∀ b ∈ l.flatMap Foot.foot,h b=none)∧(l.flatMap Foot.foot).Nodup
theorem Mines.nil {α:Type} [Enc α] [Foot α] {h h':Hp}:Mines h h' ([]:List α):=⟨fun x hx=>(by cases hx),fun b hb=>(by cases hb),List.nodup_nil⟩
theorem Mines.snoc {α:Type} [Enc α] [Foot α] {h h' h2:Hp} {l:List α} {x:α} (H:Mines h h' l) (hok:∀ y ∈ l,Enc.ok h' y) (hle:h'.le h2) (h0:h.le h') (hx:Mine h' h2 x):Mines h h2 (l ++ [x]):=by
 have hx':=hx.back h0
 refine ⟨fun y hy=>?_,fun b hb=>?_,?_⟩
 ·rcases List.mem_append.1 hy with hy|hy
  ·exact (Foot.loc (hok y hy) (H.1 y hy) fun b _ o ho=>hle b o ho).2
  ·rw [List.mem_singleton.1 hy];exact hx.1
 ·rw [List.flatMap_append,List.mem_append] at hb
  rcases hb with hb|hb
  ·exact H.2.1 b hb
  ·rw [List.flatMap_cons,List.flatMap_nil,List.append_nil] at hb
   exact hx'.2.1 b hb
 ·rw [List.flatMap_append,List.flatMap_cons,List.flatMap_nil,List.append_nil]
  refine List.nodup_append.2 ⟨H.2.2,hx.2.2,fun a ha b hb e=>?_⟩
  subst e
  obtain ⟨y,hy,ha⟩:=List.mem_flatMap.1 ha
  exact Foot.dom (H.1 y hy) a ha (hx.2.1 a hb)
theorem Mines.flat {α:Type} [Enc α] [Foot α] {h h':Hp} {l:List α} (hf:∀ x:α,Foot.foot x=[]) (ho:∀ x:α,Foot.own h' x):Mines h h' l:=by
 have:l.flatMap (Foot.foot (α:=α))=[]:=by
  rw [List.flatMap_eq_nil_iff];exact fun x _=>hf x
 exact ⟨fun x _=>ho x,fun b hb=>(by rw [this] at hb;cases hb),by rw [this];exact List.nodup_nil⟩
theorem Pub.mine {α:Type} [Enc α] [Foot α] {hb h h':Hp} {e:TypeId} {l:List α} {ad:Option Addr} {cap:Nat} (H:Pub h e (Enc.size α) l.length (l.flatMap Enc.enc) ad cap h') (hle:hb.le h) (hok:∀ x ∈ l,Enc.ok h x) (hm:Mines hb h l):Mine hb h' (Sl.mk ad cap l):=by
 have hl':=H.le
 by_cases hl:l=[]
 ·subst hl;exact Mine.nil
 ·have hlen:l.length ≠ 0:=fun e=>hl (List.length_eq_zero_iff.1 e)
  rcases H.2.2.2 with ⟨_,hn,_⟩|⟨g,cur,rfl,hg,rfl,hsz,_⟩
  ·exact (hlen hn).elim
  ·have hfoot:Foot.foot (Sl.mk (some ⟨g,0,none⟩) cap l)=g :: l.flatMap Foot.foot:=Sl.foot_ne (s:=Sl.mk (some ⟨g,0,none⟩) cap l) hl
   refine ⟨fun _=>⟨⟨g,cur,e,rfl,by simp [Hp.ins],hsz⟩,fun x hx=>(Foot.loc (hok x hx) (hm.1 x hx) fun b _ o ho=>hl' b o ho).2⟩,fun b hb'=>?_,?_⟩
   ·rw [hfoot] at hb'
    rcases List.mem_cons.1 hb' with rfl|hb'
    ·cases hh:hb b with
     | none=>rfl
     | some o=>rw [hle b o hh] at hg;cases hg
    ·exact hm.2.1 b hb'
   ·rw [hfoot]
    refine List.nodup_cons.2 ⟨fun hx=>?_,hm.2.2⟩
    obtain ⟨y,hy,ha⟩:=List.mem_flatMap.1 hx
    exact Foot.dom (hm.1 y hy) g ha hg
theorem zl5 {α:Type} [Enc α] [Foot α] {x:Cx} {st:St} {c:Code} {Q:Exit→St→Prop} (r:Nat) {e:TypeId} (l:List α) {sz n:Nat} {xs:List Value} (hr:look r st.p=some (.row e sz n xs)) (hsz:sz=Enc.size α) (hn:n=l.length) (hxs:xs=l.flatMap Enc.enc) (hp:0 < Enc.size α)
  (hok:∀ x ∈ l,Enc.ok st.h x) (hb:Hp) (hbl:hb.le st.h) (hm:Mines hb st.h l) (h:∀ (s:Sl α) h',s.l=l→s.Ok h'→st.h.le h'→Mine hb h' s→T x (st.sub r s.val h') c Q):T x st c Q:=by
 subst hsz hn hxs
 refine zjO r hr fun ad cap h' H=>?_
 exact h ⟨ad,cap,l⟩ h' rfl (H.sl hp hok) H.le (H.mine hbl hok hm)
open Go Go.RowKit
class Mk (α:Type) where
 put:α→Int→α
 cnt:α→Nat
def mkL {α:Type} [Mk α]:List α→Int→List α
 | [],_=>[]
 | x :: l,k=>Mk.put x k :: mkL l (k+Mk.cnt x)
def cntL {α:Type} [Mk α] (l:List α):Nat:=(l.map Mk.cnt).sum
instance {α:Type} [Mk α]:Mk (Sl α):=⟨fun s k=>⟨s.a,s.cap,mkL s.l k⟩,fun s=>cntL s.l⟩
instance:Mk Int:=⟨fun _ k=>k,fun _=>1⟩
section
variable {α:Type} [Mk α]
theorem zl6:cntL ([]:List α)=0:=rfl
theorem zl7 {x:α} {l:List α}:cntL (x :: l)=Mk.cnt x+cntL l:=by simp [cntL]
theorem zl8 {l m:List α}:cntL (l ++ m)=cntL l+cntL m:=by simp [cntL]
theorem zl9:∀ {l:List α} {k:Int},(mkL l k).length=l.length
 | [],_=>rfl
 | x :: l,k=>by simp [mkL,zl9]
theorem zma:∀ {l m:List α} {k:Int},mkL (l ++ m) k=mkL l k ++ mkL m (k+cntL l)
 | [],m,k=>by simp [mkL,zl6]
 | x :: l,m,k=>by
  rw [List.cons_append,mkL,mkL,zma,zl7,List.cons_append]
  congr 3
  omega
theorem zmb {l:List α} {k:Int} {i:Nat} (hi:i < l.length):mkL (l.take (i+1)) k=mkL (l.take i) k ++ [Mk.put l[i] (k+cntL (l.take i))]:=by
 rw [List.take_succ_eq_append_getElem hi,zma];rfl
theorem zmc {l:List α} {i:Nat} (hi:i < l.length):cntL (l.take (i+1))=cntL (l.take i)+Mk.cnt l[i]:=by
 rw [List.take_succ_eq_append_getElem hi,zl8,zl7,zl6];omega
theorem zmd {l:List α} {i:Nat}:cntL (l.take i)≤cntL l:=by
 conv=>rhs;rw [← List.take_append_drop i l,zl8]
 omega
def mkd (l:List α) (k:Int) (i:Nat):List α:=mkL (l.take i) k ++ l.drop i
theorem zme {l:List α} {k:Int}:mkd l k 0=l:=by simp [mkd,mkL]
theorem zmf {l:List α} {k:Int} {i:Nat} (hi:l.length≤i):mkd l k i=mkL l k:=by simp [mkd,List.take_of_length_le hi,List.drop_eq_nil_of_le hi]
theorem zmg {l:List α} {k:Int} {i:Nat}:(mkd l k i).length=l.length:=by
 simp only [mkd,List.length_append,zl9,List.length_take,List.length_drop];omega
theorem zmh {l:List α} {k:Int} {i:Nat} (hi:i < l.length):(mkd l k i).set i (Mk.put l[i] (k+cntL (l.take i)))=mkd l k (i+1):=by
 have h1:(mkL (l.take i) k).length=i:=by rw [zl9,List.length_take];omega
 simp only [mkd]
 rw [List.set_append_right i _ (by omega),h1,Nat.sub_self,zmb hi,List.drop_eq_getElem_cons hi,List.set_cons_zero,List.append_assoc]
 rfl
end
def rowL {α:Type} [Enc α] (l:List α) (spare:List Value):List Value:=l.flatMap Enc.enc ++ spare
theorem zmi {α:Type} [Enc α] {l:List α} {spare:List Value}:(rowL l spare).length=l.length * Enc.size α+spare.length:=by rw [rowL,List.length_append,ziq Enc.len]
theorem zmj {α:Type} [Enc α] {l:List α} {spare:List Value} {i:Nat} {x:α} (hi:i < l.length):zbG (i * Enc.size α) (Enc.enc x) (rowL l spare)=rowL (l.set i x) spare:=by
 have h1:((l.take i).flatMap Enc.enc).length=i * Enc.size α:=by rw [ziq Enc.len,List.length_take,Nat.min_eq_left (Nat.le_of_lt hi)]
 have e1:rowL l spare=(l.take i).flatMap Enc.enc ++ (Enc.enc l[i] ++ ((l.drop (i+1)).flatMap Enc.enc ++ spare)):=by
  have e0:l=l.take i ++ l[i] :: l.drop (i+1):=by rw [← List.drop_eq_getElem_cons hi,List.take_append_drop]
  have:=congrArg (fun z=>z.flatMap Enc.enc ++ spare) e0
  simp only [List.flatMap_append,List.flatMap_cons,List.append_assoc] at this
  exact this
 have e2:rowL (l.set i x) spare=(l.take i).flatMap Enc.enc ++ (Enc.enc x ++ ((l.drop (i+1)).flatMap Enc.enc ++ spare)):=by
  rw [rowL,List.set_eq_take_append_cons_drop,if_pos hi]
  simp
 rw [e1,e2,zbG,List.take_left' h1,List.drop_append,h1,Enc.len,List.drop_eq_nil_of_le (by rw [h1];omega),List.nil_append,Nat.add_sub_cancel_left,List.drop_left' (Enc.len _)]
theorem zmk {o:Nat} {m:List Value} {v:Value} {xs:List Value} (hl:o+m.length < xs.length):zbG (o+m.length) [v] (zbG o m xs)=zbG o (m ++ [v]) xs:=by
 have h1:(xs.take o).length=o:=by rw [List.length_take];omega
 simp only [zbG]
 rw [List.take_append,h1,List.take_of_length_le (by omega),Nat.add_sub_cancel_left,List.take_left' rfl,List.drop_append,h1,List.drop_eq_nil_of_le (by omega),List.nil_append,List.length_singleton,
  show o+m.length+1 - o=m.length+1 by omega,List.drop_append,List.drop_eq_nil_of_le (by omega),List.nil_append,Nat.add_sub_cancel_left,List.drop_drop,List.length_append,List.length_singleton]
 simp [Nat.add_assoc]
theorem zml {o:Nat} {m:List Value} {v:Value} {xs:List Value} (hl:o+m.length < xs.length):spl (o+m.length) [v] (spl o m xs)=spl o (m ++ [v]) xs:=zmk hl
theorem zmm {o:Nat} {m xs:List Value} (h:o+m.length≤xs.length):(spl o m xs).length=xs.length:=zcF h
theorem zmn {α:Type} [Enc α] {h:Hp} {g cap:Nat} {e:TypeId} {l:List α} {spare:List Value} (hp:0 < Enc.size α) (hb:h g=some (.cells (rowL l spare).toArray e (0,0))) (hc:l.length≤cap) (hm:cap≤maxLen) (hok:∀ x ∈ l,Enc.ok h x) :
  (Sl.mk (some ⟨g,0,none⟩) cap l).Ok h:=by
 refine ⟨hc,fun _=>rfl,fun i x hx=>?_,hok,hm⟩
 have hi:i < l.length:=(List.getElem?_eq_some_iff.1 hx).1
 refine zad (Enc.len x) fun j v hj=>?_
 have hjl:j < Enc.size α:=by rw [← Enc.len x];exact (List.getElem?_eq_some_iff.1 hj).1
 have hfl:(l.flatMap Enc.enc)[i * Enc.size α+j]?=some v:=by
  rw [zio Enc.len hp]
  have e1:(i * Enc.size α+j) / Enc.size α=i:=by rw [Nat.add_comm,Nat.add_mul_div_right _ _ hp,Nat.div_eq_of_lt hjl,Nat.zero_add]
  have e2:(i * Enc.size α+j) % Enc.size α=j:=by rw [Nat.add_comm,Nat.add_mul_mod_self_right,Nat.mod_eq_of_lt hjl]
  rw [e1,e2,hx]
  exact hj
 rw [zir,Nat.zero_add,za4]
 simp only [Hp.cell,hb,Option.isSome_none,Bool.false_eq_true,if_false,Nat.zero_add,List.getElem?_toArray,rowL]
 rw [List.getElem?_append_left (by exact (List.getElem?_eq_some_iff.1 hfl).1)]
 exact hfl
theorem zmo {α:Type} [Enc α] [Foot α] {h:Hp} {s:Sl α} (hp:0 < Enc.size α) (hok:s.Ok h) (ho:Foot.own h s) (hl:s.l ≠ []) :
  ∃ g e spare,s.a=some ⟨g,0,none⟩∧h g=some (.cells (rowL s.l spare).toArray e (0,0))∧s.l.length * Enc.size α+spare.length=s.cap * Enc.size α:=by
 obtain ⟨⟨g,cur,e,ha,hb,hsz⟩,_⟩:=ho hl
 have hall:=hok.all hp
 unfold Hp.ldL at hall
 have hlen:s.l.length ≠ 0:=fun e=>hl (List.length_eq_zero_iff.1 e)
 have hall:(if s.l.length=0 then some [] else h.lds s.a (s.l.length * Enc.size α))=some (s.l.flatMap Enc.enc):=hall
 rw [if_neg hlen,ha] at hall
 obtain ⟨h1,h2⟩:=zac (show h.cellsAt ⟨g,0,none⟩ 0 _=some _ from hall)
 have hcur:cur.toList.take (s.l.length * Enc.size α)=s.l.flatMap Enc.enc:=by
  apply List.ext_getElem?
  intro j
  by_cases hj:j < s.l.length * Enc.size α
  ·rw [List.getElem?_take,if_pos hj]
   have hj':j < (s.l.flatMap Enc.enc).length:=by rw [h1];exact hj
   have:=h2 j _ (List.getElem?_eq_getElem hj')
   rw [za4] at this
   simp only [Hp.cell,hb,Option.isSome_none,Bool.false_eq_true,if_false,Nat.zero_add] at this
   rw [List.getElem?_eq_getElem hj',← this,Array.getElem?_toList]
  ·rw [List.getElem?_take,if_neg hj,List.getElem?_eq_none (by omega)]
 have hle:s.l.length * Enc.size α≤s.cap * Enc.size α:=Nat.mul_le_mul_right _ hok.1
 refine ⟨g,e,cur.toList.drop (s.l.length * Enc.size α),ha,?_,?_⟩
 ·rw [hb,rowL,← hcur,List.take_append_drop]
 ·rw [List.length_drop,Array.length_toList,hsz];omega
open Go Go.RowKit
def mkB (k:Int):Bool:=Int.tmod k 3 == 0
def zmp:Nat→Nat→List UInt8→List UInt8
 | 0,_,acc=>acc
 | f+1,n,acc=>if n=0 then acc else zmp f (n / 10) (UInt8.ofNat (48+n % 10) :: acc)
def mkT (k:Int):ByteArray:=⟨((109:UInt8) :: (if k≤0 then [48] else zmp 64 k.toNat [])).toArray⟩
instance:Foot DCall:=⟨fun _=>[],fun _ _=>True,fun H _ _=>⟨H,trivial⟩,fun _ b hb=>by cases hb⟩
instance:Foot DPassage:=⟨fun _=>[],fun _ _=>True,fun H _ _=>⟨H,trivial⟩,fun _ b hb=>by cases hb⟩
instance:Foot DOption where
 foot c:=Foot.foot c.pas
 own h c:=Foot.own h c.pas
 loc {h h' c} hok hown hk:=by
  have hok:I64 c.start∧I64 c.arr∧I64 c.cost∧c.pas.Ok h:=hok
  have hown:Foot.own h c.pas:=hown
  obtain ⟨k0,w0⟩:=Foot.loc (x:=c.pas) (h':=h') (hok.2.2.2) (hown) fun b hb=>hk b hb
  exact ⟨⟨hok.1,hok.2.1,hok.2.2.1,k0⟩,w0⟩
 dom {h c} hown b hb:=by
  have hown:Foot.own h c.pas:=hown
  have hb:b ∈ Foot.foot c.pas:=hb
  exact Foot.dom hown b hb
instance:Foot DCrew where
 foot c:=Foot.foot c.moves
 own h c:=Foot.own h c.moves
 loc {h h' c} hok hown hk:=by
  have hok:I64 c.tugs∧I64 c.pilots∧I64 c.rest∧c.moves.Ok h:=hok
  have hown:Foot.own h c.moves:=hown
  obtain ⟨k0,w0⟩:=Foot.loc (x:=c.moves) (h':=h') (hok.2.2.2) (hown) fun b hb=>hk b hb
  exact ⟨⟨hok.1,hok.2.1,hok.2.2.1,k0⟩,w0⟩
 dom {h c} hown b hb:=by
  have hown:Foot.own h c.moves:=hown
  have hb:b ∈ Foot.foot c.moves:=hb
  exact Foot.dom hown b hb
theorem zmq (c:DCrew):Foot.foot c=Foot.foot c.moves:=rfl
theorem zmr {h:Hp} {c:DCrew}:Foot.own h c=(Foot.own h c.moves):=rfl
instance:Foot DPart:=⟨fun _=>[],fun _ _=>True,fun H _ _=>⟨H,trivial⟩,fun _ b hb=>by cases hb⟩
instance:Foot DTide where
 foot c:=Foot.foot c.parts
 own h c:=Foot.own h c.parts
 loc {h h' c} hok hown hk:=by
  have hok:I64 c.mean∧c.parts.Ok h:=hok
  have hown:Foot.own h c.parts:=hown
  obtain ⟨k0,w0⟩:=Foot.loc (x:=c.parts) (h':=h') (hok.2) (hown) fun b hb=>hk b hb
  exact ⟨⟨hok.1,k0⟩,w0⟩
 dom {h c} hown b hb:=by
  have hown:Foot.own h c.parts:=hown
  have hb:b ∈ Foot.foot c.parts:=hb
  exact Foot.dom hown b hb
theorem zms (c:DTide):Foot.foot c=Foot.foot c.parts:=rfl
theorem zmt {h:Hp} {c:DTide}:Foot.own h c=(Foot.own h c.parts):=rfl
instance:Foot DSurge:=⟨fun _=>[],fun _ _=>True,fun H _ _=>⟨H,trivial⟩,fun _ b hb=>by cases hb⟩
instance:Foot DForecast where
 foot c:=Foot.foot c.tide ++ Foot.foot c.surges
 own h c:=Foot.own h c.tide∧Foot.own h c.surges
 loc {h h' c} hok hown hk:=by
  have hok:Enc.ok h c.tide∧c.surges.Ok h:=hok
  have hown:Foot.own h c.tide∧Foot.own h c.surges:=hown
  obtain ⟨k0,w0⟩:=Foot.loc (x:=c.tide) (h':=h') (hok.1) (hown.1) fun b hb=>hk b (List.mem_append_left _ hb)
  obtain ⟨k1,w1⟩:=Foot.loc (x:=c.surges) (h':=h') (hok.2) (hown.2) fun b hb=>hk b (List.mem_append_right _ hb)
  exact ⟨⟨k0,k1⟩,⟨w0,w1⟩⟩
 dom {h c} hown b hb:=by
  have hown:Foot.own h c.tide∧Foot.own h c.surges:=hown
  have hb:b ∈ Foot.foot c.tide ++ Foot.foot c.surges:=hb
  simp only [List.mem_append] at hb
  rcases hb with h0|h1
  ·exact Foot.dom (hown.1) b h0
  ·exact Foot.dom (hown.2) b h1
theorem zmu (c:DForecast):Foot.foot c=Foot.foot c.tide ++ Foot.foot c.surges:=rfl
theorem zmv {h:Hp} {c:DForecast}:Foot.own h c=(Foot.own h c.tide∧Foot.own h c.surges):=rfl
instance:Foot DPoint:=⟨fun _=>[],fun _ _=>True,fun H _ _=>⟨H,trivial⟩,fun _ b hb=>by cases hb⟩
instance:Foot DSegment:=⟨fun _=>[],fun _ _=>True,fun H _ _=>⟨H,trivial⟩,fun _ b hb=>by cases hb⟩
instance:Foot DChart where
 foot c:=Foot.foot c.points ++ Foot.foot c.segments
 own h c:=Foot.own h c.points∧Foot.own h c.segments
 loc {h h' c} hok hown hk:=by
  have hok:c.points.Ok h∧c.segments.Ok h:=hok
  have hown:Foot.own h c.points∧Foot.own h c.segments:=hown
  obtain ⟨k0,w0⟩:=Foot.loc (x:=c.points) (h':=h') (hok.1) (hown.1) fun b hb=>hk b (List.mem_append_left _ hb)
  obtain ⟨k1,w1⟩:=Foot.loc (x:=c.segments) (h':=h') (hok.2) (hown.2) fun b hb=>hk b (List.mem_append_right _ hb)
  exact ⟨⟨k0,k1⟩,⟨w0,w1⟩⟩
 dom {h c} hown b hb:=by
  have hown:Foot.own h c.points∧Foot.own h c.segments:=hown
  have hb:b ∈ Foot.foot c.points ++ Foot.foot c.segments:=hb
  simp only [List.mem_append] at hb
  rcases hb with h0|h1
  ·exact Foot.dom (hown.1) b h0
  ·exact Foot.dom (hown.2) b h1
theorem zmw (c:DChart):Foot.foot c=Foot.foot c.points ++ Foot.foot c.segments:=rfl
theorem zmx {h:Hp} {c:DChart}:Foot.own h c=(Foot.own h c.points∧Foot.own h c.segments):=rfl
instance:Foot DShip:=⟨fun _=>[],fun _ _=>True,fun H _ _=>⟨H,trivial⟩,fun _ b hb=>by cases hb⟩
instance:Foot DRegime:=⟨fun _=>[],fun _ _=>True,fun H _ _=>⟨H,trivial⟩,fun _ b hb=>by cases hb⟩
instance:Foot DHarbour where
 foot c:=Foot.foot c.forecast ++ Foot.foot c.chart ++ Foot.foot c.fleet ++ Foot.foot c.crew
 own h c:=Foot.own h c.forecast∧Foot.own h c.chart∧Foot.own h c.fleet∧Foot.own h c.crew
 loc {h h' c} hok hown hk:=by
  have hok:Enc.ok h c.forecast∧Enc.ok h c.chart∧c.fleet.Ok h∧Enc.ok h c.regime∧Enc.ok h c.crew:=hok
  have hown:Foot.own h c.forecast∧Foot.own h c.chart∧Foot.own h c.fleet∧Foot.own h c.crew:=hown
  obtain ⟨k0,w0⟩:=Foot.loc (x:=c.forecast) (h':=h') (hok.1) (hown.1) fun b hb=>hk b (List.mem_append_left _ (List.mem_append_left _ (List.mem_append_left _ hb)))
  obtain ⟨k1,w1⟩:=Foot.loc (x:=c.chart) (h':=h') (hok.2.1) (hown.2.1) fun b hb=>hk b (List.mem_append_left _ (List.mem_append_left _ (List.mem_append_right _ hb)))
  obtain ⟨k2,w2⟩:=Foot.loc (x:=c.fleet) (h':=h') (hok.2.2.1) (hown.2.2.1) fun b hb=>hk b (List.mem_append_left _ (List.mem_append_right _ hb))
  obtain ⟨k3,w3⟩:=Foot.loc (x:=c.crew) (h':=h') (hok.2.2.2.2) (hown.2.2.2) fun b hb=>hk b (List.mem_append_right _ hb)
  exact ⟨⟨k0,k1,k2,hok.2.2.2.1,k3⟩,⟨w0,w1,w2,w3⟩⟩
 dom {h c} hown b hb:=by
  have hown:Foot.own h c.forecast∧Foot.own h c.chart∧Foot.own h c.fleet∧Foot.own h c.crew:=hown
  have hb:b ∈ Foot.foot c.forecast ++ Foot.foot c.chart ++ Foot.foot c.fleet ++ Foot.foot c.crew:=hb
  simp only [List.mem_append] at hb
  rcases hb with ((h0|h1)|h2)|h3
  ·exact Foot.dom (hown.1) b h0
  ·exact Foot.dom (hown.2.1) b h1
  ·exact Foot.dom (hown.2.2.1) b h2
  ·exact Foot.dom (hown.2.2.2) b h3
theorem zmy (c:DHarbour):Foot.foot c=Foot.foot c.forecast ++ Foot.foot c.chart ++ Foot.foot c.fleet ++ Foot.foot c.crew:=rfl
theorem zmz {h:Hp} {c:DHarbour}:Foot.own h c=(Foot.own h c.forecast∧Foot.own h c.chart∧Foot.own h c.fleet∧Foot.own h c.crew):=rfl
instance:Foot DBranch where
 foot c:=Foot.foot c.plan
 own h c:=Foot.own h c.plan
 loc {h h' c} hok hown hk:=by
  have hok:I64 c.low∧I64 c.high∧c.plan.Ok h:=hok
  have hown:Foot.own h c.plan:=hown
  obtain ⟨k0,w0⟩:=Foot.loc (x:=c.plan) (h':=h') (hok.2.2) (hown) fun b hb=>hk b hb
  exact ⟨⟨hok.1,hok.2.1,k0⟩,w0⟩
 dom {h c} hown b hb:=by
  have hown:Foot.own h c.plan:=hown
  have hb:b ∈ Foot.foot c.plan:=hb
  exact Foot.dom hown b hb
instance:Foot DStrategy where
 foot c:=Foot.foot c.branches
 own h c:=Foot.own h c.branches
 loc {h h' c} hok hown hk:=by
  have hok:I64 c.minute∧c.branches.Ok h:=hok
  have hown:Foot.own h c.branches:=hown
  obtain ⟨k0,w0⟩:=Foot.loc (x:=c.branches) (h':=h') (hok.2) (hown) fun b hb=>hk b hb
  exact ⟨⟨hok.1,k0⟩,w0⟩
 dom {h c} hown b hb:=by
  have hown:Foot.own h c.branches:=hown
  have hb:b ∈ Foot.foot c.branches:=hb
  exact Foot.dom hown b hb
instance:Foot DWindow:=⟨fun _=>[],fun _ _=>True,fun H _ _=>⟨H,trivial⟩,fun _ b hb=>by cases hb⟩
instance:Foot DDuty:=⟨fun _=>[],fun _ _=>True,fun H _ _=>⟨H,trivial⟩,fun _ b hb=>by cases hb⟩
instance:Mk DCall:=⟨fun c k=>⟨k,(k+1),(k+2),(k+3),(k+4)⟩,fun c=>5⟩
instance:Mk DPassage:=⟨fun c k=>⟨k,(k+1),mkB (k+2),(k+3),(k+4)⟩,fun c=>5⟩
instance:Mk DOption:=⟨fun c k=>⟨k,(k+1),(k+2),Mk.put c.pas (k+3)⟩,fun c=>3+Mk.cnt c.pas⟩
instance:Mk DCrew:=⟨fun c k=>⟨k,(k+1),(k+2),Mk.put c.moves (k+3)⟩,fun c=>3+Mk.cnt c.moves⟩
instance:Mk DPart:=⟨fun c k=>⟨k,(k+1),(k+2)⟩,fun c=>3⟩
instance:Mk DTide:=⟨fun c k=>⟨k,Mk.put c.parts (k+1)⟩,fun c=>1+Mk.cnt c.parts⟩
instance:Mk DSurge:=⟨fun c k=>⟨k,(k+1),(k+2)⟩,fun c=>3⟩
instance:Mk DPoint:=⟨fun c k=>⟨mkT k,mkB (k+1)⟩,fun c=>2⟩
instance:Mk DSegment:=⟨fun c k=>⟨k,(k+1),(k+2),(k+3),mkB (k+4)⟩,fun c=>5⟩
instance:Mk DChart:=⟨fun c k=>⟨Mk.put c.points k,Mk.put c.segments (k+(Mk.cnt c.points:Nat))⟩,fun c=>Mk.cnt c.points+Mk.cnt c.segments⟩
instance:Mk DShip:=⟨fun c k=>⟨mkT k,(k+1),(k+2),(k+3),(k+4),mkB (k+5)⟩,fun c=>6⟩
instance:Mk DRegime:=⟨fun c k=>⟨k,mkB (k+1)⟩,fun c=>2⟩
instance:Mk DBranch:=⟨fun c k=>⟨k,(k+1),Mk.put c.plan (k+2)⟩,fun c=>2+Mk.cnt c.plan⟩
instance:Mk DStrategy:=⟨fun c k=>⟨k,Mk.put c.branches (k+1)⟩,fun c=>1+Mk.cnt c.branches⟩
instance:Mk DWindow:=⟨fun c k=>⟨k,(k+1)⟩,fun c=>2⟩
instance:Mk DDuty:=⟨fun c k=>⟨k,(k+1),(k+2),(k+3)⟩,fun c=>4⟩
def zmA (c:DCrew) (k:Int):DCrew:={ c with moves:=Mk.put c.moves k }
def zmB (c:DCrew):Nat:=Mk.cnt c.moves
def zmC (c:DTide) (k:Int):DTide:={ c with parts:=Mk.put c.parts k }
def zmD (c:DTide):Nat:=Mk.cnt c.parts
def zmE (c:DForecast) (k:Int):DForecast:={ c with tide:=zmC c.tide k,surges:=Mk.put c.surges (k+(zmD c.tide:Nat)) }
def zmF (c:DForecast):Nat:=zmD c.tide+Mk.cnt c.surges
def zmG (c:DChart) (k:Int):DChart:={ c with points:=Mk.put c.points k,segments:=Mk.put c.segments (k+(Mk.cnt c.points:Nat)) }
def zmH (c:DChart):Nat:=Mk.cnt c.points+Mk.cnt c.segments
def zmI (c:DHarbour) (k:Int):DHarbour:={ c with forecast:=zmE c.forecast k,chart:=zmG c.chart (k+(zmF c.forecast:Nat)),fleet:=Mk.put c.fleet (k+(zmF c.forecast:Nat)+(zmH c.chart:Nat)),crew:=zmA c.crew (k+(zmF c.forecast:Nat)+(zmH c.chart:Nat)+(Mk.cnt c.fleet:Nat)) }
def zmJ (c:DHarbour):Nat:=zmF c.forecast+zmH c.chart+Mk.cnt c.fleet+zmB c.crew
open Go Go.RowKit
theorem fld {α:Type} [Enc α] {h:Hp} {s:Sl α} (H:s.Ok h) {i:Nat} (hi:i < s.l.length) (f:Nat) {v:Value} (hv:(Enc.enc s.l[i])[f]?=some v):h.lds (Option.map (fun x=>x.add f) (Option.map (fun x=>x.add (i * Enc.size α)) s.a)) 1=some [v]:=by
 have h1:=H.at hi
 obtain ⟨a,ha⟩:=Option.isSome_iff_exists.1 (H.some hi)
 rw [ha] at h1 ⊢
 have h2:=(zac (show h.cellsAt (a.add (i * Enc.size α)) 0 _=some _ from h1)).2 f v hv
 refine zad rfl fun j u hj=>?_
 cases j with
 | zero=>simp only [List.getElem?_cons_zero,Option.some.injEq] at hj;subst hj;rw [Nat.zero_add] at h2;simpa [zir] using h2
 | succ j=>simp at hj
theorem fld0 {α:Type} [Enc α] {h:Hp} {s:Sl α} (H:s.Ok h) {i:Nat} (hi:i < s.l.length) {v:Value} (hv:(Enc.enc s.l[i])[0]?=some v):h.lds (Option.map (fun x=>x) (Option.map (fun x=>x.add (i * Enc.size α)) s.a)) 1=some [v]:=by
 have:=fld H hi 0 hv
 have e:(fun x:Addr=>x.add 0)=fun x=>x:=by funext x;simp [Addr.add]
 rwa [e] at this
theorem fldS {α:Type} [Enc α] {h:Hp} {s:Sl α} (H:s.Ok h) {i:Nat} (hi:i < s.l.length) (f:Nat) (hf:f ≠ 0) {v:Value} (hv:(Enc.enc s.l[i])[f]?=some v):h.lds (Option.map (fun x=>{ block:=x.block,off:=x.off+f }) (Option.map (fun x=>x.add (i * Enc.size α)) s.a)) 1=some [v]:=by
 have:=fld H hi f hv
 have e:(fun x:Addr=>x.add f)=fun x=>{ block:=x.block,off:=x.off+f }:=by funext x;simp [Addr.add,hf]
 rwa [e] at this
theorem zmK {α:Type} [Mk α]:∀ {l:List α} {k:Int} {i:Nat} (hi:i < l.length),(mkL l k)[i]'(by rw [zl9];exact hi)=Mk.put l[i] (k+cntL (l.take i))
 | x :: l,k,0,hi=>by simp [mkL,cntL]
 | x :: l,k,i+1,hi=>by
  simp only [mkL,List.getElem_cons_succ,List.take_succ_cons,zl7]
  rw [zmK (by simpa using hi)]
  congr 1
  omega
theorem zmL {α:Type} [Mk α] {l:List α} {k:Int} (hm:mkL l k=l) {i:Nat} (hi:i < l.length):l[i]=Mk.put l[i] (k+cntL (l.take i)):=by
 rw [← zmK hi];simp only [hm]
class MkOk (α:Type) [Enc α] [Foot α] [Mk α]:Prop where
 foot:∀ (x:α) (k:Int),Foot.foot (Mk.put x k)=Foot.foot x
 cnt:∀ (x:α) (k:Int),Mk.cnt (Mk.put x k)=Mk.cnt x
 idem:∀ (x:α) (k:Int),Mk.put (Mk.put x k) k=Mk.put x k
section
variable {α:Type} [Enc α] [Foot α] [Mk α] [MkOk α]
theorem zmM:∀ {l:List α} {k:Int},(mkL l k).flatMap Foot.foot=l.flatMap Foot.foot
 | [],_=>rfl
 | x :: l,k=>by rw [mkL,List.flatMap_cons,List.flatMap_cons,MkOk.foot,zmM]
theorem zmN:∀ {l:List α} {k:Int},cntL (mkL l k)=cntL l
 | [],_=>rfl
 | x :: l,k=>by rw [mkL,zl7,zl7,MkOk.cnt,zmN]
theorem zmO:∀ {l:List α} {k:Int},mkL (mkL l k) k=mkL l k
 | [],_=>rfl
 | x :: l,k=>by rw [mkL,mkL,MkOk.idem,MkOk.cnt,zmO]
end
instance:MkOk Int:=⟨fun _ _=>rfl,fun _ _=>rfl,fun _ _=>rfl⟩
instance {α:Type} [Enc α] [Foot α] [Mk α] [MkOk α]:MkOk (Sl α):=⟨fun x k=>by
  by_cases hl:x.l=[]
  ·rw [show Foot.foot x=[] from Sl.foot_nil hl];exact Sl.foot_nil (by show mkL x.l k=[];rw [hl];rfl)
  ·have hl':(Mk.put x k).l ≠ []:=fun e=>hl (List.length_eq_zero_iff.1 (by rw [← zl9 (k:=k),show mkL x.l k=[] from e];rfl))
   rw [show Foot.foot x=_ from Sl.foot_ne hl,show Foot.foot (Mk.put x k)=_ from Sl.foot_ne hl']
   show x.blkOf :: (mkL x.l k).flatMap Foot.foot=_
   rw [zmM],
 fun x k=>zmN,fun x k=>by show (⟨x.a,x.cap,mkL (mkL x.l k) k⟩:Sl α)=_;rw [zmO];rfl⟩
instance:MkOk DCall:=⟨fun _ _=>rfl,fun _ _=>rfl,fun _ _=>rfl⟩
theorem zmP {h:Hp} {s:Sl DPassage} (H:s.Ok h) {i:Nat} (hi:i < s.l.length):h.lds (Option.map (fun x=>x) (Option.map (fun x=>x.add (i * 5)) s.a)) 1=some [.int .i64 s.l[i].ship]∧h.lds (Option.map (fun x=>{ block:=x.block,off:=x.off+1 }) (Option.map (fun x=>x.add (i * 5)) s.a)) 1=some [.int .i64 s.l[i].seg]∧h.lds (Option.map (fun x=>{ block:=x.block,off:=x.off+2 }) (Option.map (fun x=>x.add (i * 5)) s.a)) 1=some [.bool s.l[i].toward]∧h.lds (Option.map (fun x=>{ block:=x.block,off:=x.off+3 }) (Option.map (fun x=>x.add (i * 5)) s.a)) 1=some [.int .i64 s.l[i].start]∧h.lds (Option.map (fun x=>{ block:=x.block,off:=x.off+4 }) (Option.map (fun x=>x.add (i * 5)) s.a)) 1=some [.int .i64 s.l[i].fin]:=⟨fld0 H hi rfl,fldS H hi 1 (by decide) rfl,fldS H hi 2 (by decide) rfl,fldS H hi 3 (by decide) rfl,fldS H hi 4 (by decide) rfl⟩
instance:MkOk DPassage:=⟨fun _ _=>rfl,fun _ _=>rfl,fun _ _=>rfl⟩
theorem zmQ {h:Hp} {s:Sl DOption} (H:s.Ok h) {i:Nat} (hi:i < s.l.length):h.lds (Option.map (fun x=>x) (Option.map (fun x=>x.add (i * 4)) s.a)) 1=some [.int .i64 s.l[i].start]∧h.lds (Option.map (fun x=>{ block:=x.block,off:=x.off+1 }) (Option.map (fun x=>x.add (i * 4)) s.a)) 1=some [.int .i64 s.l[i].arr]∧h.lds (Option.map (fun x=>{ block:=x.block,off:=x.off+2 }) (Option.map (fun x=>x.add (i * 4)) s.a)) 1=some [.int .i64 s.l[i].cost]∧h.lds (Option.map (fun x=>{ block:=x.block,off:=x.off+3 }) (Option.map (fun x=>x.add (i * 4)) s.a)) 1=some [s.l[i].pas.val]:=⟨fld0 H hi rfl,fldS H hi 1 (by decide) rfl,fldS H hi 2 (by decide) rfl,fldS H hi 3 (by decide) rfl⟩
instance:MkOk DOption:=⟨fun x k=>MkOk.foot x.pas _,fun x k=>congrArg (3+·) (MkOk.cnt x.pas _),fun x k=>by
 show DOption.mk _ _ _ _=DOption.mk _ _ _ _
 congr 1
 exact MkOk.idem x.pas _⟩
instance:MkOk DCrew:=⟨fun x k=>MkOk.foot x.moves _,fun x k=>congrArg (3+·) (MkOk.cnt x.moves _),fun x k=>by
 show DCrew.mk _ _ _ _=DCrew.mk _ _ _ _
 congr 1
 exact MkOk.idem x.moves _⟩
instance:MkOk DPart:=⟨fun _ _=>rfl,fun _ _=>rfl,fun _ _=>rfl⟩
instance:MkOk DTide:=⟨fun x k=>MkOk.foot x.parts _,fun x k=>congrArg (1+·) (MkOk.cnt x.parts _),fun x k=>by
 show DTide.mk _ _=DTide.mk _ _
 congr 1
 exact MkOk.idem x.parts _⟩
theorem zmR {h:Hp} {s:Sl DSurge} (H:s.Ok h) {i:Nat} (hi:i < s.l.length):h.lds (Option.map (fun x=>x) (Option.map (fun x=>x.add (i * 3)) s.a)) 1=some [.int .i64 s.l[i].src]∧h.lds (Option.map (fun x=>{ block:=x.block,off:=x.off+1 }) (Option.map (fun x=>x.add (i * 3)) s.a)) 1=some [.int .i64 s.l[i].low]∧h.lds (Option.map (fun x=>{ block:=x.block,off:=x.off+2 }) (Option.map (fun x=>x.add (i * 3)) s.a)) 1=some [.int .i64 s.l[i].high]:=⟨fld0 H hi rfl,fldS H hi 1 (by decide) rfl,fldS H hi 2 (by decide) rfl⟩
instance:MkOk DSurge:=⟨fun _ _=>rfl,fun _ _=>rfl,fun _ _=>rfl⟩
theorem zmS {h:Hp} {s:Sl DPoint} (H:s.Ok h) {i:Nat} (hi:i < s.l.length):h.lds (Option.map (fun x=>x) (Option.map (fun x=>x.add (i * 2)) s.a)) 1=some [.string s.l[i].name]∧h.lds (Option.map (fun x=>{ block:=x.block,off:=x.off+1 }) (Option.map (fun x=>x.add (i * 2)) s.a)) 1=some [.bool s.l[i].wait]:=⟨fld0 H hi rfl,fldS H hi 1 (by decide) rfl⟩
instance:MkOk DPoint:=⟨fun _ _=>rfl,fun _ _=>rfl,fun _ _=>rfl⟩
theorem zmT {h:Hp} {s:Sl DSegment} (H:s.Ok h) {i:Nat} (hi:i < s.l.length):h.lds (Option.map (fun x=>x) (Option.map (fun x=>x.add (i * 5)) s.a)) 1=some [.int .i64 s.l[i].a]∧h.lds (Option.map (fun x=>{ block:=x.block,off:=x.off+1 }) (Option.map (fun x=>x.add (i * 5)) s.a)) 1=some [.int .i64 s.l[i].b]∧h.lds (Option.map (fun x=>{ block:=x.block,off:=x.off+2 }) (Option.map (fun x=>x.add (i * 5)) s.a)) 1=some [.int .i64 s.l[i].depth]∧h.lds (Option.map (fun x=>{ block:=x.block,off:=x.off+3 }) (Option.map (fun x=>x.add (i * 5)) s.a)) 1=some [.int .i64 s.l[i].minutes]∧h.lds (Option.map (fun x=>{ block:=x.block,off:=x.off+4 }) (Option.map (fun x=>x.add (i * 5)) s.a)) 1=some [.bool s.l[i].meet]:=⟨fld0 H hi rfl,fldS H hi 1 (by decide) rfl,fldS H hi 2 (by decide) rfl,fldS H hi 3 (by decide) rfl,fldS H hi 4 (by decide) rfl⟩
instance:MkOk DSegment:=⟨fun _ _=>rfl,fun _ _=>rfl,fun _ _=>rfl⟩
theorem zmU {h:Hp} {s:Sl DShip} (H:s.Ok h) {i:Nat} (hi:i < s.l.length):h.lds (Option.map (fun x=>x) (Option.map (fun x=>x.add (i * 6)) s.a)) 1=some [.string s.l[i].name]∧h.lds (Option.map (fun x=>{ block:=x.block,off:=x.off+1 }) (Option.map (fun x=>x.add (i * 6)) s.a)) 1=some [.int .i64 s.l[i].length]∧h.lds (Option.map (fun x=>{ block:=x.block,off:=x.off+2 }) (Option.map (fun x=>x.add (i * 6)) s.a)) 1=some [.int .i64 s.l[i].draught]∧h.lds (Option.map (fun x=>{ block:=x.block,off:=x.off+3 }) (Option.map (fun x=>x.add (i * 6)) s.a)) 1=some [.int .i64 s.l[i].line]∧h.lds (Option.map (fun x=>{ block:=x.block,off:=x.off+4 }) (Option.map (fun x=>x.add (i * 6)) s.a)) 1=some [.int .i64 s.l[i].tugs]∧h.lds (Option.map (fun x=>{ block:=x.block,off:=x.off+5 }) (Option.map (fun x=>x.add (i * 6)) s.a)) 1=some [.bool s.l[i].slow]:=⟨fld0 H hi rfl,fldS H hi 1 (by decide) rfl,fldS H hi 2 (by decide) rfl,fldS H hi 3 (by decide) rfl,fldS H hi 4 (by decide) rfl,fldS H hi 5 (by decide) rfl⟩
instance:MkOk DShip:=⟨fun _ _=>rfl,fun _ _=>rfl,fun _ _=>rfl⟩
instance:MkOk DRegime:=⟨fun _ _=>rfl,fun _ _=>rfl,fun _ _=>rfl⟩
instance:MkOk DBranch:=⟨fun x k=>MkOk.foot x.plan _,fun x k=>congrArg (2+·) (MkOk.cnt x.plan _),fun x k=>by
 show DBranch.mk _ _ _=DBranch.mk _ _ _
 congr 1
 exact MkOk.idem x.plan _⟩
instance:MkOk DStrategy:=⟨fun x k=>MkOk.foot x.branches _,fun x k=>congrArg (1+·) (MkOk.cnt x.branches _),fun x k=>by
 show DStrategy.mk _ _=DStrategy.mk _ _
 congr 1
 exact MkOk.idem x.branches _⟩
theorem zmV {h:Hp} {s:Sl DWindow} (H:s.Ok h) {i:Nat} (hi:i < s.l.length):h.lds (Option.map (fun x=>x) (Option.map (fun x=>x.add (i * 2)) s.a)) 1=some [.int .i64 s.l[i].src]∧h.lds (Option.map (fun x=>{ block:=x.block,off:=x.off+1 }) (Option.map (fun x=>x.add (i * 2)) s.a)) 1=some [.int .i64 s.l[i].dst]:=⟨fld0 H hi rfl,fldS H hi 1 (by decide) rfl⟩
instance:MkOk DWindow:=⟨fun _ _=>rfl,fun _ _=>rfl,fun _ _=>rfl⟩
instance:MkOk DDuty:=⟨fun _ _=>rfl,fun _ _=>rfl,fun _ _=>rfl⟩
open Go Go.RowKit
def News (h h':Hp) (f:List Nat):Prop:=(∀ b ∈ f,h b=none∧h' b ≠ none)∧f.Nodup
theorem News.append {h h1 h2:Hp} {f g:List Nat} (H:News h h1 f) (l1:h.le h1) (l2:h1.le h2) (K:News h1 h2 g):News h h2 (f ++ g):=by
 refine ⟨fun b hb=>?_,List.nodup_append.2 ⟨H.2,K.2,fun a ha b hb e=>?_⟩⟩
 ·rcases List.mem_append.1 hb with hb|hb
  ·refine ⟨(H.1 b hb).1,?_⟩
   cases hh:h1 b with
   | none=>exact ((H.1 b hb).2 hh).elim
   | some o=>rw [l2 b o hh];simp
  ·refine ⟨?_,(K.1 b hb).2⟩
   cases hh:h b with
   | none=>rfl
   | some o=>rw [← (K.1 b hb).1,l1 b o hh]
 ·subst e;exact (H.1 a ha).2 (K.1 a hb).1
theorem Mine.news {α:Type} [Enc α] [Foot α] {h h':Hp} {x:α} (H:Mine h h' x):News h h' (Foot.foot x):=⟨fun b hb=>⟨H.2.1 b hb,Foot.dom H.1 b hb⟩,H.2.2⟩
theorem News.mine {α:Type} [Enc α] [Foot α] {h h':Hp} {x:α} (ho:Foot.own h' x) (H:News h h' (Foot.foot x)):Mine h h' x:=⟨ho,fun b hb=>(H.1 b hb).1,H.2⟩
theorem ok_keep {α:Type} [Enc α] [Foot α] {h h':Hp} {x:α} {M:Nat→Prop} (hok:Enc.ok h x) (hown:Foot.own h x) (hM:∀ b ∈ Foot.foot x,¬ M b) (hk:∀ b o,h b=some o→¬ M b→h' b=some o):Enc.ok h' x∧Foot.own h' x :=
 Foot.loc hok hown fun b hb o ho=>hk b o ho (hM b hb)
open Go Go.RowKit
def rn:List Nat→Nat→Nat
 | [],_=>0
 | a :: _,0=>a
 | _ :: l,n+1=>rn l n
def SC.ren (l:List Nat):SC→SC
 | .v x=>.v x
 | .p r o=>.p (rn l r) o
 | .s r=>.s (rn l r)
def SV.ren (l:List Nat):SV→SV
 | .c x=>.c (x.ren l)
 | .g cs=>.g (cs.map (·.ren l))
def renE (l:List Nat):Env→Env
 | []=>[]
 | (t,c,sv) :: e=>(t,c,sv.ren l) :: renE l e
def PB.ren (l:List Nat):PB→PB
 | .box ty cs=>.box ty (cs.map (·.ren l))
 | .row e sz n xs=>.row e sz n xs
def renP (l:List Nat):List (Nat × PB)→List (Nat × PB)
 | []=>[]
 | (r,b) :: p=>(rn l r,b.ren l) :: renP l p
def zmW (n:Nat):List (Nat × PB)→Bool
 | []=>true
 | (r,_) :: p=>decide (r < n) && zmW n p
def St.leG (l:List Nat) (h0:Hp) (st st':St):Prop:=leE st.e (renE l st'.e)∧leP st.p (renP l st'.p)∧st'.h.le st.h∧h0.le st'.h∧st'.wf=true∧l.Nodup∧zmW l.length st'.p=true
section
variable {l:List Nat} {ρ:Rho}
theorem SC.ren_conc (x:SC):(x.ren l).conc ρ=x.conc (fun r=>ρ (rn l r)):=by cases x <;> rfl
theorem SV.ren_conc (x:SV):(x.ren l).conc ρ=x.conc (fun r=>ρ (rn l r)):=by
 cases x with
 | c x=>exact SC.ren_conc x
 | g cs=>simp only [SV.ren,zal,List.map_map];congr 2;exact List.map_congr_left fun x _=>SC.ren_conc x
theorem zmX {t:Nat} {c:Bool} {sv:SV}:∀ {e:Env},look t e=some (c,sv)→look t (renE l e)=some (c,sv.ren l)
 | [],h=>by cases h
 | (k,c',sv') :: e,h=>by
  simp only [renE,look] at h ⊢
  split at h
  ·rename_i hk;rw [if_pos hk];simp only [Option.some.injEq,Prod.mk.injEq] at h;rw [h.1,h.2]
  ·rename_i hk;rw [if_neg hk];exact zmX h
theorem zmY:∀ {l:List Nat} {r:Nat},r < l.length→l[r]?=some (rn l r)
 | [],r,h=>by simp at h
 | a :: l,0,_=>rfl
 | a :: l,r+1,h=>by simpa [rn] using zmY (l:=l) (r:=r) (by simpa using h)
theorem zmZ (hn:l.Nodup) {r r':Nat} (hr:r < l.length) (hr':r' < l.length) (h:rn l r=rn l r'):r=r':=by
 have h1:=zmY hr
 have h2:=zmY hr'
 rw [h,← h2] at h1
 exact (List.getElem?_inj hr hn).1 h1
theorem zm0 (hn:l.Nodup) {r:Nat} {b:PB}:∀ {p:List (Nat × PB)},zmW l.length p=true→look r p=some b→r < l.length∧look (rn l r) (renP l p)=some (b.ren l)
 | [],_,h=>by cases h
 | (k,b') :: p,hl,h=>by
  simp only [zmW,jJ,decide_eq_true_eq] at hl
  simp only [renP,look] at h ⊢
  split at h
  ·rename_i hk;subst hk;simp only [Option.some.injEq] at h;rw [if_pos rfl,h];exact ⟨hl.1,rfl⟩
  ·rename_i hk
   obtain ⟨h1,h2⟩:=zm0 hn hl.2 h
   rw [if_neg (fun e=>hk (zmZ hn hl.1 h1 e))]
   exact ⟨h1,h2⟩
theorem PB.ok_ren {W:World} {r:Nat} {b:PB} (h:(b.ren l).ok 0 ρ (rn l r) W):b.ok 0 (fun r=>ρ (rn l r)) r W:=by
 cases b with
 | box ty cs =>
  obtain ⟨g,h1,h2,h3⟩:=h
  refine ⟨g,h1,h2,?_⟩
  rw [h3,List.map_map]
  congr 3
  exact List.map_congr_left fun x _=>SC.ren_conc x
 | row=>exact h
theorem Conc.weakenG {W0:Base} {h0:Hp} {N:Nat} {st st':St} {a:Act} {W:World} (h:st.leG l h0 st') (hC:Conc W0 h0 N st a W):Conc W0 h0 N st' a W:=by
 obtain ⟨h1,h2,h3,h4,h5,h6,h7⟩:=h
 obtain ⟨ρ,hf,hW,hw⟩:=hC
 have hp:∀ r b,look r st'.p=some b→r < l.length∧look (rn l r) st.p=some (b.ren l):=fun r b hr=>by
  obtain ⟨k1,k2⟩:=zm0 h6 h7 hr
  exact ⟨k1,zdb h2 _ _ k2⟩
 refine ⟨fun r=>ρ (rn l r),⟨hf.1,hf.2.1,fun t c sv hl=>?_⟩,?_,h5⟩
 ·rw [hf.2.2 t c _ (zda h1 t _ (zmX hl)),SV.ren_conc]
 ·refine ⟨hW.below,fun b o hb=>hW.sees b o (h3 b o hb),fun b o hb _=>h4 b o hb,fun b o hb hn=>hW.new b o (h3 b o hb) hn,fun r b g hr hat=>?_,fun r b hr=>?_,fun r b g hr hat=>?_,fun r b r' b' g hr hr' hat hat'=>?_⟩
  ·exact hW.own (rn l r) _ g (hp r b hr).2 hat
  ·exact PB.ok_ren (hW.priv _ _ (hp r b hr).2)
  ·cases hh:st'.h g with
   | none=>rfl
   | some o=>have:=hW.apart (rn l r) _ g (hp r b hr).2 hat;rw [h3 g o hh] at this;cases this
  ·exact zmZ h6 (hp r b hr).1 (hp r' b' hr').1 (hW.distinct _ _ _ _ g (hp r b hr).2 (hp r' b' hr').2 hat hat')
end
section
variable {x:Cx} {st:St} {Q:Exit→St→Prop}
theorem zm1 {ι:Type} {c:Code} (S:ι→St) (ok:ι→Prop) (m:ι→Nat) (i0:ι) (h0:ok i0) (l0:List Nat) (hle:st.leG l0 x.h0 (S i0))
  (hr:∀ i,ok i→T x (S i) c (zc1 (fun st'=>∃ j l,ok j∧m j < m i∧st'.leG l x.h0 (S j)) Q)):T x st (.loop c) Q:=by
 unfold T at *
 intro a W hC
 refine zdd (fun i a' W'=>ok i∧Conc x.W0 x.h0 x.N (S i) a' W') m ?_ i0 a W ⟨h0,hC.weakenG hle⟩
 rintro i a W ⟨hi,hC⟩
 refine Code.wp_mono ?_ (hr i hi a W hC)
 rintro e a' W' ⟨st',hq,hC'⟩
 cases e with
 | normal =>
  obtain ⟨j,l,hj,hlt,hle⟩:=hq
  exact ⟨j,hlt,hj,hC'.weakenG hle⟩
 | _=>exact ⟨st',hq,hC'⟩
end
section
variable {l:List Nat} {r o n t a:Nat} {c:Bool} {sv:SV} {e:Env} {p:List (Nat × PB)} {b:PB} {x:SC} {cs:List SC} {h0:Hp} {st st':St}
@[go_sem] theorem zm2:st.leG l h0 st'=(leE st.e (renE l st'.e)∧leP st.p (renP l st'.p)∧st'.h.le st.h∧h0.le st'.h∧st'.wf=true∧l.Nodup∧zmW l.length st'.p=true):=rfl
@[go_sem] theorem zm3:st.leF h0 st'=(leE st.e st'.e∧leP st.p st'.p∧st'.h.le st.h∧h0.le st'.h∧st'.wf=true):=rfl
@[go_sem] theorem zm4:rn (a :: l) 0=a:=rfl
@[go_sem] theorem zm5:rn (a :: l) (n+1)=rn l n:=rfl
@[go_sem] theorem zm6:renE l []=[]:=rfl
@[go_sem] theorem zm7:renE l ((t,c,sv) :: e)=(t,c,sv.ren l) :: renE l e:=rfl
@[go_sem] theorem zm8:renP l []=[]:=rfl
@[go_sem] theorem zm9:renP l ((r,b) :: p)=(rn l r,b.ren l) :: renP l p:=rfl
@[go_sem] theorem zna:SV.ren l (.c x)=.c (x.ren l):=rfl
@[go_sem] theorem znb:SV.ren l (.g cs)=.g (cs.map (·.ren l)):=rfl
@[go_sem] theorem znc {y:Value}:SC.ren l (.v y)=.v y:=rfl
@[go_sem] theorem znd:SC.ren l (.s r)=.s (rn l r):=rfl
@[go_sem] theorem zne:SC.ren l (.p r o)=.p (rn l r) o:=rfl
@[go_sem] theorem znf {ty:TypeId}:PB.ren l (.box ty cs)=.box ty (cs.map (·.ren l)):=rfl
@[go_sem] theorem zng {e:TypeId} {sz n:Nat} {xs:List Value}:PB.ren l (.row e sz n xs)=.row e sz n xs:=rfl
@[go_sem] theorem znh:zmW n []=true:=rfl
@[go_sem] theorem zni:zmW n ((r,b) :: p)=(decide (r < n) && zmW n p):=rfl
@[go_sem] theorem znj:([]:List Nat).Nodup=True:=eq_true List.nodup_nil
@[go_sem] theorem znk:[a].Nodup=True:=eq_true (by simp)
@[go_sem] theorem znl:(a :: l).Nodup=(a ∉ l∧l.Nodup):=by simp
@[go_sem] theorem znm {h:Hp}:h.le h=True:=eq_true (Hp.le_refl h)
@[go_sem] theorem znn:([]:List Nat).length=0:=rfl
@[go_sem] theorem zno:(a :: l).length=l.length+1:=rfl
end
open Go Go.RowKit
theorem Ct.forget {P:Program} {f:FuncId} {args:List Value} {h:Hp} {p:Value→Prop} (H:Ct P f args h fun v _=>p v):Ct P f args h fun v h'=>p v∧h'=h:=by
 unfold Ct at *
 exact ⟨H.1,fun W hs=>(H.2 W hs).mono fun _ _ ⟨v,h',he,r,b,l,s,n⟩=>⟨v,h,he,⟨r,rfl⟩,b,Hp.le_refl _,fun b o hb=>s b o (l b o hb),fun b o h1 h2=>by rw [h1] at h2;cases h2⟩⟩
theorem znp {α:Type} [Enc α] {h:Hp}:(⟨none,0,[]⟩:Sl α).Ok h:=⟨Nat.le_refl _,fun h=>(h rfl).elim,fun i x hx=>(by cases hx),fun x hx=>(by cases hx),Nat.zero_le _⟩
theorem znq {α:Type} {p:α→Bool} {l:List α} {k:Nat} (hk:k < l.length) (hq:p l[k]=true):(l.take (k+1)).filter p=(l.take k).filter p ++ [l[k]]:=by
 rw [List.take_succ_eq_append_getElem hk,List.filter_append,List.filter_cons_of_pos hq,List.filter_nil]
theorem znr {α:Type} {p:α→Bool} {l:List α} {k:Nat} (hk:k < l.length) (hq:p l[k]=false):(l.take (k+1)).filter p=(l.take k).filter p:=by
 rw [List.take_succ_eq_append_getElem hk,List.filter_append,List.filter_cons_of_neg (by rw [hq];exact Bool.false_ne_true),List.filter_nil,List.append_nil]
theorem zns {α β:Type} {f:α→β} {l:List α} {k:Nat} (hk:k < l.length):(l.take (k+1)).map f=(l.take k).map f ++ [f l[k]]:=by
 rw [List.take_succ_eq_append_getElem hk,List.map_append];rfl
@[go_sem] theorem znt {a b:ByteArray}:(a.toList == b.toList)=decide (a=b):=by
 rw [ByteArray.toList_eq,ByteArray.toList_eq]
 by_cases h:a=b
 ·subst h;simp
 ·rw [decide_eq_false h]
  exact beq_eq_false_iff_ne.2 fun e=>h (WideShapes.bytes_inj e)
def znu (s:ByteArray) (k:Nat):Int:=((s[k]?).getD 0).toNat
@[go_sem] theorem znv {P:Program} {g:Bool} {t:TypeId} {s:ByteArray} {i:SV} {L:SV→Prop} (ht:arrT P t=none):zbj P g t (.c (.v (.string s))) i L=((g=true→∃ k,Value.isI k i.val)∧strT P t=true∧(g=true→0≤Value.I i.val∧Value.I i.val < s.size)∧L (.c (.v (.int .u8 (znu s (Value.I i.val).toNat))))):=by
 unfold zbj
 rw [ht]
 simp [Value.isS,SV.val,SC.val,Value.S,znu]
class Sz (β:Type) where
 sz:β→Nat
instance:Sz Int:=⟨fun _=>0⟩
instance:Sz Bool:=⟨fun _=>0⟩
instance:Sz ByteArray:=⟨fun s=>s.size⟩
instance {β:Type} [Sz β]:Sz (List β):=⟨fun l=>l.length+(l.map Sz.sz).sum⟩
theorem znw {β:Type} [Sz β] {l:List β}:Sz.sz l=l.length+(l.map Sz.sz).sum:=rfl
theorem znx {β:Type} [Sz β] {l:List β} {n:Nat} (h:Sz.sz l≤n):l.length≤n:=by rw [znw] at h;omega
theorem zny {β:Type} [Sz β] {l:List β} {n:Nat} (h:Sz.sz l≤n) {x:β} (hx:x ∈ l):Sz.sz x≤n:=by
 have:=zkN (List.mem_map_of_mem (f:=Sz.sz) hx)
 rw [znw] at h;omega
class BlkCon (α:Type) (β:outParam Type) [Blk α] [Con α β] [Sz β]:Prop where
 eq:∀ x:α,Blk.blk x=Sz.sz (Con.con x)
instance:BlkCon Int Int:=⟨fun _=>rfl⟩
instance:BlkCon Bool Bool:=⟨fun _=>rfl⟩
instance:BlkCon ByteArray ByteArray:=⟨fun _=>rfl⟩
instance {α β:Type} [Blk α] [Con α β] [Sz β] [BlkCon α β]:BlkCon (Sl α) (List β):=⟨fun s=>by
 rw [zkB,znw,zkz,List.length_map,List.map_map]
 congr 2
 exact List.map_congr_left fun x _=>BlkCon.eq x⟩
theorem znz {α β:Type} [Blk α] [Con α β] [Sz β] [BlkCon α β] {a s:α} (h:Con.con s=Con.con a) {n:Nat} (hb:Blk.blk a≤n):Sz.sz (Con.con s)≤n:=by
 rw [h,← BlkCon.eq];exact hb
theorem znA {α β:Type} [Con α β] (s:Sl α):(Con.con s).length=s.l.length:=by rw [zkz,List.length_map]
instance:Sz DCall:=⟨fun _=>0⟩
instance:BlkCon DCall DCall:=⟨fun _=>rfl⟩
instance:Sz DPassage:=⟨fun _=>0⟩
instance:BlkCon DPassage DPassage:=⟨fun _=>rfl⟩
instance:Sz POption:=⟨fun c=>Sz.sz c.pas⟩
instance:BlkCon DOption POption:=⟨fun c=>by
 rw [zkY]
 show _=Sz.sz (Con.con c.pas)
 simp only [BlkCon.eq]⟩
instance:Sz PCrew:=⟨fun c=>Sz.sz c.moves⟩
instance:BlkCon DCrew PCrew:=⟨fun c=>by
 rw [zk2]
 show _=Sz.sz (Con.con c.moves)
 simp only [BlkCon.eq]⟩
instance:Sz DPart:=⟨fun _=>0⟩
instance:BlkCon DPart DPart:=⟨fun _=>rfl⟩
instance:Sz PTide:=⟨fun c=>Sz.sz c.parts⟩
instance:BlkCon DTide PTide:=⟨fun c=>by
 rw [zk7]
 show _=Sz.sz (Con.con c.parts)
 simp only [BlkCon.eq]⟩
instance:Sz DSurge:=⟨fun _=>0⟩
instance:BlkCon DSurge DSurge:=⟨fun _=>rfl⟩
instance:Sz PForecast:=⟨fun c=>Sz.sz c.tide+Sz.sz c.surges⟩
instance:BlkCon DForecast PForecast:=⟨fun c=>by
 rw [zlc]
 show _=Sz.sz (Con.con c.tide)+Sz.sz (Con.con c.surges)
 simp only [BlkCon.eq]⟩
instance:Sz DPoint:=⟨fun c=>Sz.sz c.name⟩
instance:BlkCon DPoint DPoint:=⟨fun c=>by
 rw [zle]
 show _=Sz.sz (Con.con c.name)
 simp only [BlkCon.eq]⟩
instance:Sz DSegment:=⟨fun _=>0⟩
instance:BlkCon DSegment DSegment:=⟨fun _=>rfl⟩
instance:Sz PChart:=⟨fun c=>Sz.sz c.points+Sz.sz c.segments⟩
instance:BlkCon DChart PChart:=⟨fun c=>by
 rw [zlk]
 show _=Sz.sz (Con.con c.points)+Sz.sz (Con.con c.segments)
 simp only [BlkCon.eq]⟩
instance:Sz DShip:=⟨fun c=>Sz.sz c.name⟩
instance:BlkCon DShip DShip:=⟨fun c=>by
 rw [zlm]
 show _=Sz.sz (Con.con c.name)
 simp only [BlkCon.eq]⟩
instance:Sz DRegime:=⟨fun _=>0⟩
instance:BlkCon DRegime DRegime:=⟨fun _=>rfl⟩
instance:Sz PHarbour:=⟨fun c=>Sz.sz c.forecast+Sz.sz c.chart+Sz.sz c.fleet+Sz.sz c.crew⟩
instance:BlkCon DHarbour PHarbour:=⟨fun c=>by
 rw [zlr]
 show _=Sz.sz (Con.con c.forecast)+Sz.sz (Con.con c.chart)+Sz.sz (Con.con c.fleet)+Sz.sz (Con.con c.crew)
 simp only [BlkCon.eq]⟩
instance:Sz zlt:=⟨fun c=>Sz.sz c.plan⟩
instance:BlkCon DBranch zlt:=⟨fun c=>by
 rw [zlu]
 show _=Sz.sz (Con.con c.plan)
 simp only [BlkCon.eq]⟩
instance:Sz zlw:=⟨fun c=>Sz.sz c.branches⟩
instance:BlkCon DStrategy zlw:=⟨fun c=>by
 rw [zlx]
 show _=Sz.sz (Con.con c.branches)
 simp only [BlkCon.eq]⟩
instance:Sz DWindow:=⟨fun _=>0⟩
instance:BlkCon DWindow DWindow:=⟨fun _=>rfl⟩
instance:Sz DDuty:=⟨fun _=>0⟩
instance:BlkCon DDuty DDuty:=⟨fun _=>rfl⟩
open Go Go.RowKit
theorem znC {h h':Hp} {b:Nat} (hle:h.le h') (hn:h' b=none):h b=none:=by
 cases hh:h b with
 | none=>rfl
 | some o=>rw [← hn,hle b o hh]
theorem znD {α:Type} [Enc α] [Foot α] {h h':Hp} {x:α} (hle:h.le h') (ok:Enc.ok h x) (ow:Foot.own h x):Foot.own h' x:=(Foot.loc ok ow fun b _ o ho=>hle b o ho).2
theorem znE {h0 h h':Hp} {f:List Nat} (hle:h0.le h) (hM:∀ b ∈ f,h0 b=none) (hk:∀ b o,h b=some o→¬ (b ∈ f)→h' b=some o):h0.le h':=fun b o hb =>
 hk b o (hle b o hb) fun hm=>by rw [hM b hm] at hb;cases hb
class MkSz (α:Type) {β:outParam Type} [Mk α] [Con α β] [Sz β]:Prop where
 le:∀ x:α,Mk.cnt x≤6+6 * Sz.sz (Con.con x)
instance:MkSz Int:=⟨fun x=>by show 1≤_;omega⟩
theorem znF {α β:Type} [Mk α] [Con α β] [Sz β] [MkSz α]:∀ l:List α,cntL l≤6 * (l.length+((l.map Con.con).map Sz.sz).sum)
 | []=>Nat.zero_le _
 | x :: l=>by
  have h1:=znF l
  have h2:=MkSz.le x
  rw [zl7]
  simp only [List.length_cons,List.map_cons,List.sum_cons]
  omega
instance {α β:Type} [Mk α] [Con α β] [Sz β] [MkSz α]:MkSz (Sl α):=⟨fun s=>by
 have:=znF s.l
 rw [zkz,znw,List.length_map]
 show cntL s.l≤_
 omega⟩
instance:MkSz DCall:=⟨fun x=>by show 5≤_;omega⟩
instance:MkSz DPassage:=⟨fun x=>by show 5≤_;omega⟩
instance:MkSz DPart:=⟨fun x=>by show 3≤_;omega⟩
instance:MkSz DSurge:=⟨fun x=>by show 3≤_;omega⟩
instance:MkSz DPoint:=⟨fun x=>by show 2≤_;omega⟩
instance:MkSz DSegment:=⟨fun x=>by show 5≤_;omega⟩
instance:MkSz DShip:=⟨fun x=>by show 6≤_;omega⟩
instance:MkSz DWindow:=⟨fun x=>by show 2≤_;omega⟩
instance:MkSz DDuty:=⟨fun x=>by show 4≤_;omega⟩
theorem znG {α β:Type} [Mk α] [Con α β] [Sz β] [MkSz α] (s:Sl α):Mk.cnt s≤6 * Sz.sz (Con.con s):=by
 have:=znF s.l
 rw [zkz,znw,List.length_map]
 exact this
instance:MkSz DOption:=⟨fun x=>by
 have:=znG x.pas
 show 3+Mk.cnt x.pas≤6+6 * Sz.sz (Con.con x.pas)
 omega⟩
instance:MkSz DBranch:=⟨fun x=>by
 have:=znG x.plan
 show 2+Mk.cnt x.plan≤6+6 * Sz.sz (Con.con x.plan)
 omega⟩
theorem znH {α β:Type} [Mk α] [Con α β] [Sz β] [MkSz α] {s:Sl α} {c:List β} {n:Nat} (e:Con.con s=c) (h:Sz.sz c≤n):Mk.cnt s≤6 * n:=by
 have:=znG s
 rw [e] at this
 omega
theorem znI {α:Type} [Mk α] (s:Sl α) (k:Int):(Mk.put s k).val=s.val:=by
 show Value.slice s.a (mkL s.l k).length s.cap=_
 rw [zl9];rfl
open Go Go.RowKit
theorem znJ {α β:Type} [Mk α] [Con α β] [Sz β] [MkSz α] (s:Sl α):Mk.cnt s≤6 * Sz.sz (Con.con s):=znG s
theorem znK (c:DCrew) (k:Int):Foot.foot (zmA c k)=Foot.foot c:=by simp only [zmq,zmA,MkOk.foot]
theorem znL (c:DCrew):zmB c≤6 * Sz.sz (Con.con c):=by
 have h0:=znJ c.moves
 have he:Sz.sz (Con.con c)=Sz.sz (Con.con c.moves):=rfl
 simp only [zmB]
 omega
theorem znM (c:DTide) (k:Int):Foot.foot (zmC c k)=Foot.foot c:=by simp only [zms,zmC,MkOk.foot]
theorem znN (c:DTide):zmD c≤6 * Sz.sz (Con.con c):=by
 have h0:=znJ c.parts
 have he:Sz.sz (Con.con c)=Sz.sz (Con.con c.parts):=rfl
 simp only [zmD]
 omega
theorem znO (c:DForecast) (k:Int):Foot.foot (zmE c k)=Foot.foot c:=by simp only [zmu,zmE,MkOk.foot,znM]
theorem znP (c:DForecast):zmF c≤6 * Sz.sz (Con.con c):=by
 have h0:=znN c.tide
 have h1:=znJ c.surges
 have he:Sz.sz (Con.con c)=Sz.sz (Con.con c.tide)+Sz.sz (Con.con c.surges):=rfl
 simp only [zmF]
 omega
theorem znQ (c:DChart) (k:Int):Foot.foot (zmG c k)=Foot.foot c:=by simp only [zmw,zmG,MkOk.foot]
theorem znR (c:DChart):zmH c≤6 * Sz.sz (Con.con c):=by
 have h0:=znJ c.points
 have h1:=znJ c.segments
 have he:Sz.sz (Con.con c)=Sz.sz (Con.con c.points)+Sz.sz (Con.con c.segments):=rfl
 simp only [zmH]
 omega
theorem znS (c:DHarbour) (k:Int):Foot.foot (zmI c k)=Foot.foot c:=by simp only [zmy,zmI,MkOk.foot,znO,znQ,znK]
theorem znT (c:DHarbour):zmJ c≤6 * Sz.sz (Con.con c):=by
 have h0:=znP c.forecast
 have h1:=znR c.chart
 have h2:=znJ c.fleet
 have h3:=znL c.crew
 have he:Sz.sz (Con.con c)=Sz.sz (Con.con c.forecast)+Sz.sz (Con.con c.chart)+Sz.sz (Con.con c.fleet)+Sz.sz (Con.con c.crew):=rfl
 simp only [zmJ]
 omega
theorem znU {s:DHarbour} {c:PHarbour} {n:Nat} (e:Con.con s=c) (h:Sz.sz c≤n):zmJ s≤6 * n:=by
 have:=znT s
 rw [e] at this
 omega
theorem Wk {P Q:Prop} (q:Q) (t:Q→P:=by (intro zq;(repeat' first|refine zie rfl ?_|refine zc4 rfl ?_|refine zc7 ?_|refine zc8 ?_|refine zc5 ?_|refine zc6 ?_|(simp (maxSteps:=2000000) only [go_sem,jq,jj,jy,jv,jk,jx];try rfl)|refine zc3 ?_|(refine And.intro ?_ ?_;focus (intros;clear zq;simp_all only [jp,jQ,jJ,and_self,true_and,and_true];done)));exact zq;done)):P:=t q
theorem Wk0 {P:Prop} (t:P:=by ((repeat' first|refine zie rfl ?_|refine zc4 rfl ?_|refine zc7 ?_|refine zc8 ?_|refine zc5 ?_|refine zc6 ?_|(simp (maxSteps:=2000000) only [go_sem,jq,jj,jy,jv,jk,jx];try rfl)|refine zc3 ?_|(refine And.intro ?_ ?_;focus (intros;simp_all only [jp,jQ,jJ,and_self,true_and,and_true];done)));done)):P:=t
theorem Evs {P Q:Prop} (q:Q) (t:Q→P:=by (intro zq;(simp (maxSteps:=2000000) only [go_sem,jq,jj,jy,jv,jk,jx]);exact zq;done)):P:=t q
theorem Evc {P:Prop} (t:P:=by (simp (maxSteps:=2000000) only [go_sem,jq,jj,jy,jv,jk,jx];done)):P:=t
class St1 (x:Cx) (st:St) (c:Code) (Q:Exit→St→Prop) (P:outParam Prop):Prop where
 go:P→T x st c Q
instance {x:Cx} {st:St} {Q:Exit→St→Prop}:St1 x st .ret Q (Q .ret st):=⟨zc7⟩
instance {x:Cx} {st:St} {Q:Exit→St→Prop} {id:Nat} {c:Code}:St1 x st (.block id c) Q (T x st c (zc2 id Q)):=⟨zc8⟩
instance {x:Cx} {st:St} {Q:Exit→St→Prop}:St1 x st .skip Q (Q .normal st):=⟨zc5⟩
instance {x:Cx} {st:St} {Q:Exit→St→Prop} {id:Nat}:St1 x st (.exit id) Q (Q (.exit id) st):=⟨zc6⟩
theorem Wa {P Q:Prop} (q:Q) (t:Q→P:=by (intro zq;(first|refine zie rfl ?_|refine zc4 rfl ?_|refine St1.go ?_|fail);exact zq)):P:=t q
theorem Wb {P Q:Prop} (q:Q) (t:Q→P:=by (intro zq;(first|refine zc3 ?_|(refine And.intro ?_ ?_;focus (intros;clear zq;simp_all only [jp,jQ,jJ,and_self,true_and,and_true];(first|done|fail)))|fail);exact zq)):P:=t q
theorem Gi {a b:Int} (e:a=b) {P:Prop} (t:a=b→P:=by (intro e;repeat' first|exact zjB e|exact rfl|exact trivial|assumption|decide|refine And.intro ?_ ?_)):P:=t e
theorem Gk {P:Prop} (t:P:=by (repeat' first|exact rfl|exact trivial|assumption|decide|refine And.intro ?_ ?_)):P:=t
end Go.SL
