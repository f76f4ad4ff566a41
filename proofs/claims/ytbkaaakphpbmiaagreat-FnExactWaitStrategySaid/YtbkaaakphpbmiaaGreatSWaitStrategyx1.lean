/- Plain theorems about the model. -/
import Derived.OrdersHeld
import Derived.Test.YtbkaaakphpbmiaaGreatSWaitStrategyx0
set_option linter.unusedVariables false
set_option linter.unusedSimpArgs false
set_option maxRecDepth 4000
open Bool renaming and_eq_true → jJ, not_eq_true' → jd, true_and → qp, false_eq_true → qW
open Int renaming toNat_natCast → jW, natCast_nonneg → jY
open List renaming length_append → jP, length_map → jH, take_succ_eq_append_getElem → qw, length_cons → qv, size_toArray → qK, getElem?_eq_getElem → qX, getElem_mem → qd, mem_cons_of_mem → qg, mem_cons_self → qC, take_length → qG, map_cons → wx, flatMap_cons → wV, map_congr_left → wb, not_mem_nil → wB, map_map → yj, mem_cons → yv, append_assoc → yx, mem_singleton → ya, map_nil → yD, eq_nil_of_length_eq_zero → uj, mem_map_of_mem → uX, contains_eq_mem → Jb
open Nat renaming zero_add → jb, zero_le → jC, le_refl → qV, mul_one → wy, lt_or_ge → wv, le_trans → wK, eq_zero_or_pos → we, add_mul → yP, mod_eq_of_lt → uv, add_comm → uV, add_sub_cancel_left → Jy, one_mul → JQ, strongRecOn → JP
open Option renaming getD_some → jc, map → qe
open Array renaming getD_eq_getD_getElem? → yL, getElem?_setIfInBounds_ne → uB, toList_map → uG
namespace Go.SL
open Go Go.RowKit
section
variable {P:Program} {W0:Base} {h0:Hp} {N:Nat} {st:St} {g:Bool}
theorem zcI {c:Nat}:∀ {i:Nat} {a:List Nat} {xs:List SV},zcb c i a xs →
  a=List.range' i xs.length∧a.length=xs.length∧(∀ x ∈ xs,x.cells.length=c∧x.plain=true)
 | i,[],[],_=>by simp
 | i,[],_ :: _,h=>by simp [zcb] at h
 | i,_ :: _,[],h=>by simp [zcb] at h
 | i,j :: a,x :: xs,h=>by
  obtain ⟨rfl,d,h2,e⟩:=h
  obtain ⟨f,g,k⟩:=zcI e
  refine ⟨by simp [List.range'_succ,f.symm],by simp [g],fun y b=>?_⟩
  rcases List.mem_cons.1 b with rfl|b
  ·exact ⟨d,h2⟩
  ·exact k y b
theorem zcJ {x:SV} (h:x.plain=true):x.pv.cells=(x.cells.map (·.val)).toArray:=by
 cases x with
 | c x=>cases x with
  | v x=>cases x <;> simp [SV.pv,SC.val,Value.cells,SV.cells,yj,Function.comp_def]
  | _=>cases h
 | g cs=>simp [SV.pv,Value.cells,SV.cells]
theorem zcK {t e:TypeId} {n:Nat} {W:World} {c:List Nat} {vs:List SV} {z:List Value} (r:P.underlying t=some (.slice e)) (K:hasT P e=true) (d:0 < szT P e) (M:zbF P e=some z) (N:z.length=szT P e)
  (u:n * szT P e≤16777216) (m:vs.length=n) (w:zcb (szT P e) 0 c vs) (ρ:Rho) :
  (Instr.buildSlice t n ((c.zip (vs.map (·.conc ρ))).toArray)).run P W=.ok (.slice (some ⟨W.heap.size,0,none⟩) n n) (W.alloc (.cells (vs.flatMap fun x=>x.cells.map (·.val)).toArray e)):=by
 obtain ⟨D,F,f⟩:=zcI w
 obtain ⟨i,o,O,G,R,g,_⟩:=zcu M
 have j:vs.map (·.conc ρ)=vs.map (·.pv):=wb fun x a=>SV.pv_conc (f x a).2 ρ
 have p:((vs.map (·.pv)).flatMap fun v=>v.cells.toList)=vs.flatMap fun x=>x.cells.map (·.val):=by
  rw [List.flatMap_map]
  have:∀ x ∈ vs,x.pv.cells.toList=x.cells.map (·.val):=fun x a=>by rw [zcJ (f x a).2]
  clear D F m w j f u
  induction vs with
  | nil=>rfl
  | cons y X q=>rw [wV,wV,this y qC,q fun x a=>this x (qg _ a)]
 rw [j]
 rcases we n with h|h
 ·subst h
  have:vs=[]:=uj m
  subst this
  have H:c=[]:=by simpa using F
  subst H
  simp [Instr.buildSlice,run_underlying r,Sem.run_bind,za1 (P:=P) K,Instr.fill,newRow]
  have:(Array.range 0)=#[]:=by simp [Array.range]
  simp [this]
 ·have b:=Go.Great.fill_whole (s:=szT P e) d (vs.map (·.pv)) ((Array.range (n * szT P e)).map (o.cells[· % o.cells.size]!)) (fun v Q=>by
   obtain ⟨x,a,rfl⟩:=List.mem_map.1 Q
   rw [zcJ (f x a).2]
   simpa using (f x a).1) (by simp [m])
  rw [p] at b
  have J:(c.zip (vs.map (·.pv)))=((vs.map (·.pv)).zipIdx 0).map fun x=>(x.2,x.1):=by
   rw [D]
   have:∀ (l:List Value) (k:Nat),(List.range' k l.length).zip l=(l.zipIdx k).map fun x=>(x.2,x.1):=by
    intro l
    induction l with
    | nil=>intro k;rfl
    | cons y l q=>intro k;simp [List.range'_succ,q (k+1)]
   simpa using this (vs.map (·.pv)) 0
  have:=run_buildSlice (P:=P) W t e n (c.zip (vs.map (·.pv))).toArray (vs.flatMap fun x=>x.cells.map (·.val)).toArray i o r O G (by rw [g];omega) (by
   rw [g]
   have:=Nat.mul_pos h d
   omega) (by rw [g];rw [← b,J])
  exact this
theorem zcL {a:Nat}:∀ {b:List Nat} {vs:List SV} {i:Nat},zcb a i b vs→(vs.flatMap fun x=>x.cells.map (·.val)).length=vs.length * a
 | [],[],_,_=>by simp
 | j :: b,x :: xs,i,h=>by
  obtain ⟨_,c,_,h2⟩:=h
  rw [wV,jP,jH,c,zcL h2,qv,yP,JQ,uV]
 | [],_ :: _,_,h=>h.elim
 | _ :: _,[],_,h=>h.elim
theorem zcM {o:Oper} {t:TypeId} {n:Nat} {g:Array (Nat × Operand)} {K:St→Prop} {ρ:Rho} {a:Act} {W:World} (O:o.op=.buildSlice t n g) (k:st.wf=true) (Q:∀ u,o.dst=some u→u < N) (w:FOk N ρ st.e a) (j:WOk W0 h0 ρ st.p st.h W)
  (h:zcl P st o t n g K):Runs P W0 h0 N o K ρ a W:=by
 unfold zcl at h
 obtain ⟨vs,h,m,_,q⟩:=zaD (N:=N) k h
 obtain ⟨e,R,X,r,h⟩:=zcs h
 obtain ⟨z,Y,D,F,G,Z,h⟩:=zct h
 replace q:=q rfl ρ a w
 have f:=zbX j.sees (qV _)
 have hr:=zcK (P:=P) (W:=W) (n:=n) R X r Y D F (by rw [m];simpa using G) Z ρ
 have H:=zbZ W (.cells (vs.flatMap fun x=>x.cells.map (·.val)).toArray e)
 refine ⟨.slice (some ⟨W.heap.size,0,none⟩) n n,W.alloc (.cells (vs.flatMap fun x=>x.cells.map (·.val)).toArray e),?_,_,h W.heap.size f,?_⟩
 ·simp only [execOp,O]
  have e1:(g.map fun (i,x)=>(i,a.eval x))=((g.toList.map (·.1)).zip (vs.map (·.conc ρ))).toArray:=by
   rw [← q]
   apply Array.toList_inj.1
   simp only [uG,yj,Function.comp_def]
   generalize g.toList=l
   induction l with
   | nil=>rfl
   | cons y l ih=>simp [ih]
  rw [e1]
  exact zco hr
 ·refine Conc.put_ (c:=true) (sv:=.c (.v (.slice (some ⟨W.heap.size,0,none⟩) n n))) w (j.grow H (Hp.ins_le f) (fun b s d=>?_) (fun b s d J=>?_)) (wf_p k) (wf_e k) Q rfl rfl
  ·simp only [Hp.ins] at d
   split at d
   ·rename_i M;subst M;simp only [Option.some.injEq] at d;subst d;exact heap_alloc_new W _
   ·rw [H.block b ?_]
    ·exact j.sees b s d
    ·exact (Array.getElem?_eq_some_iff.1 (j.sees b s d)).1
  ·simp only [Hp.ins] at d
   split at d
   ·rename_i M;omega
   ·rw [J] at d;cases d
theorem zcN {o:Oper} {t:TypeId} {n:Nat} {b:Array (Nat × Operand)} {K:St→Prop} {ρ:Rho} {a:Act} {W:World} (H:o.op=.buildSlice t n b) (j:st.wf=true) (J:∀ u,o.dst=some u→u < N) (w:FOk N ρ st.e a) (M:WOk W0 h0 ρ st.p st.h W)
  (h:zaC st true (b.toList.map (·.2)) fun vs=>zcc P t fun e=>0 < szT P e∧zca P e fun z=>z.length=szT P e∧n * szT P e≤16777216∧b.toList.length=n∧zcb (szT P e) 0 (b.toList.map (·.1)) vs ∧
   K (St.mk (zb5 st.e o.dst true (.c (.s st.nx))) ((st.nx,.row e (szT P e) n (vs.flatMap fun x=>x.cells.map (·.val))) :: st.p) st.h (st.nx+1))):Runs P W0 h0 N o K ρ a W:=by
 obtain ⟨vs,h,d,_,r⟩:=zaD (N:=N) j h
 obtain ⟨e,O,Q,f,h⟩:=zcs h
 obtain ⟨z,R,D,F,q,G,h⟩:=zct h
 replace r:=r rfl ρ a w
 have X:=zcK (P:=P) (W:=W) (n:=n) O Q f R D F (by rw [d];simpa using q) G ρ
 have m:vs.length=n:=by rw [d];simpa using q
 have g:(vs.flatMap fun x=>x.cells.map (·.val)).length=n * szT P e:=by rw [zcL G,m]
 refine ⟨.slice (some ⟨W.heap.size,0,none⟩) n n,W.alloc (.cells (vs.flatMap fun x=>x.cells.map (·.val)).toArray e),?_,_,h,zcz j J w (wf_p j) (zcB M (wf_p j) ?_ ⟨rfl,rfl,rfl,by simp,fun k Y _=>Below.heap_alloc W _ k Y⟩ (.inl rfl))⟩
 ·simp only [execOp,H]
  have Z:(b.map fun (i,x)=>(i,a.eval x))=((b.toList.map (·.1)).zip (vs.map (·.conc ρ))).toArray:=by
   rw [← r]
   apply Array.toList_inj.1
   simp only [uG,yj,Function.comp_def]
   generalize b.toList=l
   induction l with
   | nil=>rfl
   | cons y l ih=>simp [ih]
  rw [Z]
  exact zco X
 ·refine ⟨g,.inr ⟨W.heap.size,n,_,rfl,jC _,heap_alloc_new W _,qV _,?_,by simp [g],?_⟩⟩
  ·have h1:n * 1≤n * szT P e:=Nat.mul_le_mul_left _ f
   rw [wy] at h1
   unfold maxLen
   omega
  ·simp only
   rw [← g];exact qG
theorem zcO {n:Nat} {x:SV} {K:Nat→List Value→Prop} (e:0 < n) (h:vsrc st n x K) :
  ∃ m f,K m f∧∀ ρ W,WOk W0 h0 ρ st.p st.h W→∃ A c,x.conc ρ=.slice A m c∧f.length=m * n∧(0 < m→∃ d,A=some d)∧(A=none→c=0∨m=0)∧∀ d,A=some d→∀ j u,f[j]?=some u→W.cell? (d.add j)=some u:=by
 unfold vsrc at h
 split at h
 ·rename_i y
  obtain ⟨s,z,h⟩:=h
  obtain ⟨l,o,t,h2,D⟩:=Hp.ldL_spec s z
  rw [o] at h
  refine ⟨_,_,h,fun ρ W q=>⟨Value.A y,Value.C y,zav s,t,fun h0=>h2 h0 e,fun F=>?_,fun d a=>D W q.sees d a⟩⟩
  right
  rcases we (Value.L y) with h0|h0
  ·exact h0
  ·obtain ⟨d,a⟩:=h2 h0 e
   rw [F] at a
   cases a
 ·rename_i r
  split at h
  ·rename_i G w m f o
   obtain ⟨rfl,h⟩:=h
   refine ⟨_,_,h,fun ρ W q=>?_⟩
   have i:W.ownsRow 0 G w (ρ r) m f:=q.priv r _ o
   rcases i.2 with ⟨k,H⟩|⟨b,cap,cur,k,_⟩
   ·exact ⟨none,0,by simp [k,H],i.1,fun t=>by omega,fun _=>.inl rfl,fun d a=>by cases a⟩
   ·refine ⟨some ⟨b,0,none⟩,cap,by simp [k],i.1,fun _=>⟨_,rfl⟩,fun J=>(by cases J),fun d a=>?_⟩
    simp only [Option.some.injEq] at a
    subst a
    exact i.cells (g:=b) (by rw [k];rfl)
  ·cases h
 ·cases h
theorem zcP {e:TypeId} {j:Nat} {x:SV} {K:Nat→List Value→List (Nat × PB)→Prop} (m:st.wf=true) (h:vdst st e j x K) :
  ∃ n xs p,K n xs p∧pbLt st.nx p=true∧(∀ r b,look r p=some b→look r st.p=some b) ∧
   ∀ ρ W,WOk W0 h0 ρ st.p st.h W→W.ownsRow 0 e j (x.conc ρ) n xs∧(∀ k,(x.conc ρ).ownBlock=some k→st.h k=none∧W0.own k∧∀ r b,look r p=some b→¬ PB.at ρ r k):=by
 unfold vdst at h
 split at h
 ·rename_i r
  split at h
  ·rename_i s o n xs c
   obtain ⟨rfl,rfl,h⟩:=h
   refine ⟨_,_,_,h,zb4 (wf_p m),fun q b g=>(zb3 g).1,fun ρ W a=>⟨a.priv r _ c,fun k d=>?_⟩⟩
   have f:PB.at ρ r k:=by
    have t:W.ownsRow 0 s o (ρ r) n xs:=a.priv r _ c
    rcases t.2 with ⟨i,_⟩|⟨b,cap,cur,i,_⟩
    ·simp [i,Value.ownBlock] at d
    ·simp only [zak,zaj,i,Value.ownBlock,Option.some.injEq] at d
     subst d
     exact .inr ⟨_,_,i⟩
   exact ⟨a.apart r _ k c f,a.own r _ k c f,fun q b g l=>(zb3 g).2 (a.distinct q b r _ k (zb3 g).1 c l f)⟩
  ·cases h
 ·exact ⟨_,_,_,h,wf_p m,fun _ _ x=>x,fun ρ W a=>⟨World.ownsRow_nil W _ e j,fun k d=>by simp [Value.ownBlock] at d⟩⟩
 ·cases h
theorem zcQ {t ty e:TypeId} {W:World} {a i n:Nat} {v:Value} {xs:List Value} (d:P.underlying t=some (.slice e)) (f:hasT P e=true) (b:W.ownsRow a e i v n xs) (c:Nat) :
  (Builtin.append_ #[t,t] ty #[v,.slice none 0 c]).run P W=.ok v W:=by
 rcases b.2 with ⟨rfl,rfl⟩|⟨g,cap,cur,rfl,_,_,h,_⟩
 ·simp [Builtin.append_,run_underlying d,za1 (P:=P) f,Builtin.lenOf,Builtin.firstCells]
 ·simp [Builtin.append_,run_underlying d,za1 (P:=P) f,Builtin.lenOf,Builtin.firstCells,h,storeCells]
theorem zcR {o:Oper} {c:Call} {s x:Operand} {t:TypeId} {a:Act} {W e:World} {v:Value} (h:o.op=.call c) (f:c.callee=.builtin .append) (b:c.args.toList=[s,x]) (d:c.argTypes.toList=[t,t])
  (i:(Builtin.append_ #[t,t] o.type #[a.eval s,a.eval x]).run P W=.ok v e):(execOp a.eval o).run P W=.ok (.value v) e:=by
 obtain ⟨callee,args,g⟩:=c
 simp only at f b d
 have b:args=#[s,x]:=Array.toList_inj.1 b
 have d:g=#[t,t]:=Array.toList_inj.1 d
 subst f b d
 simp only [execOp,h,resolve,invoke,builtin,Sem.run_bind,Sem.run_pure,Result.andThen_ok,List.map_toArray,wx,yD,i]
theorem zcS {o:Oper} {c:Call} {s x:Operand} {t:TypeId} {vs vx:SV} {K:St→Prop} {ρ:Rho} {a:Act} {W:World} (ho:o.op=.call c) (hc:c.callee=.builtin .append) (ha:c.args.toList=[s,x]) (ht:c.argTypes.toList=[t,t])
  (X:st.wf=true) (hd:∀ d',o.dst=some d'→d' < N) (hf:FOk N ρ st.e a) (u:WOk W0 h0 ρ st.p st.h W) (hs:a.eval s=vs.conc ρ) (hx:a.eval x=vx.conc ρ)
  (h:zcd P st t vs vx fun e sz n xs p=>K (St.mk (zb5 st.e o.dst true (.c (.s st.nx))) ((st.nx,.row e sz n xs) :: p) st.h (st.nx+1))):Runs P W0 h0 N o K ρ a W:=by
 unfold zcd at h
 obtain ⟨e,hu,hT,h⟩:=zcs h
 obtain ⟨z,hz,ah,M,h⟩:=zct h
 obtain ⟨i,zv,hi,ai,aj,ak,al⟩:=zcu hz
 obtain ⟨m,Y,h,ac⟩:=zcO (W0:=W0) (h0:=h0) M h
 obtain ⟨n,xs,p,h,hp,F,ae⟩:=zcP (W0:=W0) (h0:=h0) X h
 obtain ⟨Z,am,an,h⟩:=h
 obtain ⟨A,cc,ex,hl,hA,ax,aa⟩:=ac ρ W u
 obtain ⟨H,g⟩:=ae ρ W u
 have ab:∀ w y,y.ownsRow 0 e (szT P e) w (n+m) (xs ++ Y)→W.grownBy y (vs.conc ρ).ownBlock→(w.ownBlock=(vs.conc ρ).ownBlock∨w.ownBlock=some W.heap.size) →
   WOk W0 h0 (upd ρ st.nx w) ((st.nx,.row e (szT P e) (n+m) (xs ++ Y)) :: p) st.h y:=by
  intro w y l J d
  have G:∀ k,k < W.heap.size→(vs.conc ρ).ownBlock ≠ some k→y.heap[k]?=W.heap[k]?:=fun k f ao=>J.block k f (Ne.symm ao)
  have ap:BelowO W0 y:=u.below.step J.os J.tape J.output J.size fun k f O=>G k O (fun Q=>f (g k Q).2.1)
  have ag:∀ a,w ≠ .pointer a:=by
   rintro a rfl
   rcases l.2 with ⟨Z,_⟩|⟨g',cap,cur,Z,_⟩ <;> cases Z
  have j:∀ k,atV w k→w.ownBlock=some k:=by
   intro k f
   rcases f with f|⟨q,r,f⟩
   ·exact (ag _ f).elim
   ·rw [f];rfl
  refine (u.add (wf_p X) F ap (zbY u.sees fun k f=>G k ?_ (fun Q=>f (g k Q).1)) (fun k f=>?_) (fun r b D=>PB.ok_keep (u.priv r b (F r b D)) fun k f=>G k (PB.ok_lt (u.priv r b (F r b D)) f).2 (fun Q=>(g k Q).2.2 r b D f)) ?_ (fun k f=>?_) (fun r b k D R f=>?_))
  ·rcases wv k W.heap.size with O|aq
   ·exact O
   ·exact (f (zbX u.sees aq)).elim
  ·have:=j k f
   rcases d with d|d
   ·exact (g k (by rw [← d,this])).2.1
   ·rw [d] at this
    simp only [Option.some.injEq] at this
    rw [← this];exact W0.big _ u.below.size
  ·show y.ownsRow 0 e (szT P e) (upd ρ st.nx w st.nx) _ _
   rw [zbT];exact l
  ·have:=j k f
   rcases d with d|d
   ·exact (g k (by rw [← d,this])).1
   ·rw [d] at this
    simp only [Option.some.injEq] at this
    rw [← this];exact zbX u.sees (qV _)
  ·have:=j k f
   rcases d with d|d
   ·exact (g k (by rw [← d,this])).2.2 r b D R
   ·rw [d] at this
    simp only [Option.some.injEq] at this
    have h2:=(PB.ok_lt (u.priv r b (F r b D)) R).2
    omega
 cases A with
 | none =>
  have au:m=0:=by
   rcases we m with h0|h0
   ·exact h0
   ·obtain ⟨ad,av⟩:=hA h0;cases av
  subst au
  have aw:Y=[]:=uj (by simpa using hl)
  subst aw
  have D:=zcQ (P:=P) (ty:=o.type) hu hT H cc
  refine ⟨_,W,zcR ho hc ha ht (by rw [hs,hx,ex];exact D),_,h,zcz X hd hf hp ?_⟩
  exact ab _ W (by simpa using H) (World.grownBy.refl W _) (.inl rfl)
 | some ad =>
  obtain ⟨w,y,D,l,J,_,d⟩:=run_append_own_at (P:=P) W 0 t o.type e i zv (szT P e) (P.bytesOf e) hu hi ai ak al (by rw [aj];simpa using ah) M (vs.conc ρ) n xs H ad m cc Y hl (aa ad rfl) Z am an (jC _)
  exact ⟨_,y,zcR ho hc ha ht (by rw [hs,hx,ex];exact D),_,h,zcz X hd hf hp (ab w y l J d)⟩
theorem zcT {o:Oper} {c:Call} {s x:Operand} {t:TypeId} {y:Value} {G:SV} {K:St→Prop} {ρ:Rho} {a:Act} {W:World} (ho:o.op=.call c) (hc:c.callee=.builtin .append) (ha:c.args.toList=[s,x]) (ht:c.argTypes.toList=[t,t])
  (r:st.wf=true) (hd:∀ H,o.dst=some H→H < N) (hf:FOk N ρ st.e a) (u:WOk W0 h0 ρ st.p st.h W) (hs:a.eval s=y) (hx:a.eval x=G.conc ρ)
  (h:zce P st t y G fun e sz n xs=>K (St.mk (zb5 st.e o.dst true (.c (.s st.nx))) ((st.nx,.row e sz n xs) :: st.p) st.h (st.nx+1))):Runs P W0 h0 N o K ρ a W:=by
 unfold zce at h
 obtain ⟨e,hu,hT,h⟩:=zcs h
 obtain ⟨z,hz,J,w,M,d,O,Q,h⟩:=zct h
 obtain ⟨i,R,hi,X,Y,j,Z⟩:=zcu hz
 obtain ⟨xs,aa,b,_,ab⟩:=Hp.ldL_spec M Q
 obtain ⟨m,ys,h,D⟩:=zcO (W0:=W0) (h0:=h0) w h
 obtain ⟨hm,h1,l,ac,h⟩:=h
 obtain ⟨A,cc,ex,f,hA,ai,g⟩:=D ρ W u
 obtain ⟨ad,rfl⟩:=hA hm
 obtain ⟨F,q⟩:=Option.isSome_iff_exists.1 O
 have ae:y=.slice (some F) (Value.L y) (Value.L y):=by
  have:=zav M
  rw [q,d] at this
  exact this
 rw [aa,jc] at h
 have hr:=run_append_grow (P:=P) W t o.type e i R hu hi X F (Value.L y) (Value.L y) xs (by rw [j];exact b) (ab W u.sees F q) ad m cc ys (by rw [j];exact f) (g ad rfl) (by omega)
  (by have:=l;unfold maxLen at this;omega) (by rw [Z];exact growslice_fits (by omega) ac)
 have ag:=grownCap_ge W (Value.L y+m) (Value.L y) e
 have ah:grownCap W (Value.L y+m) (Value.L y) e≤maxLen:=grownCap_le_maxLen W (Value.L y+m) (Value.L y) e l
 refine ⟨_,_,zcR ho hc ha ht (by rw [hs,hx,ex,ae];exact hr),_,h,zcz r hd hf (wf_p r) (zcB u (wf_p r) ⟨by rw [jP,b,f,yP],.inr ⟨W.heap.size,_,_,rfl,jC _,heap_alloc_new W.drew _,ag,ah,?_,?_⟩⟩ ⟨rfl,rfl,rfl,by simp,fun k hk _=>Below.heap_alloc W.drew _ k hk⟩ (.inl rfl))⟩
 ·simp only [Array.size_append,qK,size_zeroCells,b,f,← yP,show R.cells.size=szT P e by rw [Y];simpa using J]
  congr 1
  omega
 ·simp only [Array.toList_append,yx]
  rw [← yx,show (Value.L y+m) * szT P e=(xs ++ ys).length by rw [jP,b,f,yP]]
  exact List.take_left
end
open Go Go.RowKit
section
variable {P:Program} {W0:Base} {h0:Hp} {N:Nat} {st:St} {g:Bool}
theorem Conc.put_q {ρ:Rho} {a:Act} {W:World} {d:Option Nat} {c:Bool} {sv:SV} {v:Value} (b:st.wf=true) (g:∀ f,d=some f→f < N) (i:FOk N ρ st.e a) (j:WOk W0 h0 ρ st.p st.h W) (k:sv.lt st.nx=true)
  (l:v=if c=true then sv.conc ρ else undef):Conc W0 h0 N (st.put d c sv) (a.put d v) W :=
 Conc.put_ i j (wf_p b) (wf_e b) g k l
def Did (P:Program) (W0:Base) (h0:Hp) (N:Nat) (ops:List Oper) (o:Oper) (K:St→Prop) (Q:Exit→Act→World→Prop) (a:Act) (W:World):Prop :=
 (Region.wanted o (yielded ops.toArray a.tmps)=true∧o.wp P a W (fun a' W'=>∃ st',K st'∧Conc W0 h0 N st' a' W') Q) ∨
 (Region.wanted o (yielded ops.toArray a.tmps)=false∧∃ st',K st'∧Conc W0 h0 N st' (a.put o.dst undef) W)
theorem zcU {ops:List Oper} {o:Oper} {K:St→Prop} {Q:Exit→Act→World→Prop} {ρ:Rho} {a:Act} {W:World} {sv:SV} (d:st.wf=true) (f:∀ i,o.dst=some i→i < N) (b:FOk N ρ st.e a) (c:WOk W0 h0 ρ st.p st.h W)
  (j:Region.wanted o (yielded ops.toArray a.tmps)=g) (k:K (st.put o.dst g sv)) (l:sv.lt st.nx=true) (m:g=true→Yv P W0 h0 N st o sv):Did P W0 h0 N ops o K Q a W:=by
 cases g with
 | true=>exact .inl ⟨j,zcr (m rfl ρ a W b c) ⟨_,k,Conc.put_q d f b c l rfl⟩⟩
 | false=>exact .inr ⟨j,_,k,Conc.put_q d f b c l rfl⟩
theorem zcV {ops:List Oper} {o:Oper} {K:St→Prop} {Q:Exit→Act→World→Prop} {ρ:Rho} {a:Act} {W:World} (b:Region.wanted o (yielded ops.toArray a.tmps)=true) (h:Runs P W0 h0 N o K ρ a W):Did P W0 h0 N ops o K Q a W:=by
 obtain ⟨v,e,c,d⟩:=h
 exact .inl ⟨b,zcr c d⟩
theorem SV.mapconc {vs:List SV} (h:(vs.all (·.plain))=true) (ρ:Rho):vs.map (·.conc ρ)=vs.map (·.pv) :=
 wb fun x a=>SV.pv_conc (List.all_eq_true.1 h x a) ρ
theorem zcW {a:SV} {vs:List SV} {K:Value→Hp→Prop} (h:zcj P st g a vs K):∃ b d cs,a=.c (.v (.func (.func b) d cs)):=by
 unfold zcj at h
 split at h
 ·exact ⟨_,_,_,rfl⟩
 ·exact h.elim
theorem zcX {ops:List Oper} {o:Oper} {c:Call} {f:Operand} {K:St→Prop} {Q:Exit→Act→World→Prop} {ρ:Rho} {a:Act} {W:World} (D:o.op=.call c) (u:c.callee=.value f) (j:st.wf=true) (w:∀ x,o.dst=some x→x < N)
  (m:FOk N ρ st.e a) (r:WOk W0 h0 ρ st.p st.h W) (y:Region.wanted o (yielded ops.toArray a.tmps)=g)
  (h:getO st g f fun z=>zaC st g c.args.toList fun vs=>zcj P st g z vs fun v h'=>K (St.mk (zb5 st.e o.dst g (.of v)) st.p h' st.nx)):Did P W0 h0 N ops o K Q a W:=by
 obtain ⟨z,h,_,k⟩:=zaB (N:=N) j h
 obtain ⟨vs,h,_,_,b⟩:=zaD (N:=N) j h
 obtain ⟨F,G,cs,rfl⟩:=zcW h
 ·obtain ⟨H,h⟩:=h
  unfold vfn at h
  obtain ⟨R,d,h⟩:=h
  cases g with
  | false =>
   rcases h with h|⟨V,_,s⟩
   ·exact absurd h.1 (by simp)
   ·exact .inr ⟨y,_,s,Conc.put_ (h:=st.h) m r (wf_p j) (wf_e j) w (SV.of_lt _ _) (by simp)⟩
  | true =>
   have d:=d rfl
   unfold Ct at d
   obtain ⟨n,l⟩:=d
   replace k:=k rfl ρ a m
   replace b:=b rfl ρ a m
   rw [SV.mapconc H] at b
   have t:(execOp a.eval o).run P W=.ok (.enter F (G.toList ++ (vs.map (·.pv) ++ cs.toList)).toArray) W:=by
    obtain ⟨callee,args,aa⟩:=c
    simp only at u b
    subst u
    have J:args.map a.eval=(vs.map (·.pv)).toArray:=Array.toList_inj.1 (by rw [uG,b])
    simp only [execOp,D]
    simp only [resolve,k,zak,zah,J,Sem.run_bind,Deferred.ofValue,Sem.run_pure,Result.andThen_ok,invoke]
    rw [n]
    congr 3
    apply Array.toList_inj.1
    simp
   have M:∀ v h',R v h'→st.h.le h'→K (St.mk (zb5 st.e o.dst true (.of v)) st.p h' st.nx):=by
    intro v h' q i
    rcases h with h|⟨V,O,s⟩
    ·exact h.2 v h' i q
    ·obtain ⟨rfl,rfl⟩:=O v h' q;exact s
   refine .inl ⟨y,?_⟩
   unfold Oper.wp
   rw [t]
   simp only [Oper.upon]
   refine (l W r.sees).mono ?_
   rintro e W' ⟨v,h',rfl,q,X,i,Y,Z⟩
   exact ⟨_,M v h' q i,Conc.put_ (c:=true) m (r.grow X i Y Z) (wf_p j) (wf_e j) w (SV.of_lt _ _) (by simp [SV.conc_of])⟩
theorem zcY {ops:List Oper} {o:Oper} {K:St→Prop} {Q:Exit→Act→World→Prop} {a:Act} {W:World} (i:∀ F,o.dst=some F→F < N) (h:vop P ops st o K) (H:Conc W0 h0 N st a W):Did P W0 h0 N ops o K Q a W:=by
 obtain ⟨ρ,hf,hW,hw⟩:=H
 obtain ⟨g,h,e⟩:=zcn (N:=N) rfl h
 replace e:=e ρ a hf
 have q:(vq P st g o.op fun sv=>K (st.put o.dst g sv))→Did P W0 h0 N ops o K Q a W:=by
  intro h
  obtain ⟨sv,J,h2,M⟩:=zbS (P:=P) (W0:=W0) (h0:=h0) (N:=N) hw h
  exact zcU hw i hf hW e J h2 M
 generalize d:o.op=op at h
 cases op <;> simp only [vopG] at h <;> first|exact h.elim|(exact q (by rw [d];exact h))|skip
 case alloc t=>obtain ⟨rfl,h⟩:=h;exact zcV e (zcx d hw i hf hW h)
 case box t x=>obtain ⟨rfl,h⟩:=h;exact zcV e (zcy d hw i hf hW h)
 case buildSlice t n ps=>obtain ⟨rfl,h⟩:=h;exact zcV e (zcN d hw i hf hW h)
 case makeSlice t l c=>obtain ⟨rfl,h⟩:=h;exact zcV e (zcC d hw i hf hW h)
 case store t x y =>
  obtain ⟨rfl,O,h⟩:=h
  obtain ⟨Y,R,X⟩:=zcH d O hw hf hW h
  refine .inl ⟨e,?_⟩
  unfold Oper.wp
  rw [R]
  exact X
 case call c =>
  unfold zck at h
  split at h
  ·rename_i f k
   exact zcX d k hw i hf hW e h
  ·rename_i k
   obtain ⟨rfl,h⟩:=h
   split at h
   ·rename_i s x t Z z D
    obtain ⟨rfl,h⟩:=h
    obtain ⟨vs,G,_,u⟩:=zaB (N:=N) hw h
    obtain ⟨vx,j,_,w⟩:=zaB (N:=N) hw G
    clear G h
    replace u:=u rfl ρ a hf
    replace w:=w rfl ρ a hf
    cases vs with
    | g _=>exact j.elim
    | c vs=>cases vs with
    | p _ _=>exact j.elim
    | s r=>exact zcV e (zcS d k z D hw i hf hW u w j)
    | v y =>
     unfold zcg at j
     by_cases m:zcf y=true
     ·simp only [m,if_true] at j
      have m:y=.slice none 0 0:=by unfold zcf at m;split at m <;> first|rfl|cases m
      subst m
      exact zcV e (zcS d k z D hw i hf hW u w j)
     ·simp only [m,if_false,qW] at j
      exact zcV e (zcT d k z D hw i hf hW u w j)
   ·exact h.elim
  ·rename_i b _ k
   refine q ?_
   rw [d]
   simp only [vq,k]
   exact h
  ·exact h.elim
def zcZ (N:Nat):List Oper→Bool
 | []=>true
 | o :: l=>(match o.dst with|some d=>decide (d < N)|none=>true) && zcZ N l
theorem zc0 {ops:List Oper} {Q:Exit→Act→World→Prop}:∀ {l:List Oper} {st:St} {K:St→Prop} {a:Act} {W:World},zcZ N l=true→(∀ b g i,K b→Conc W0 h0 N b g i→Q .normal g i)→vops P ops l st K→Conc W0 h0 N st a W →
  wpList P ops.toArray Q l a W
 | [],st,K,a,W,_,d,h,j=>d st a W h j
 | o :: l,st,K,a,W,f,d,h,j=>by
  simp only [zcZ,jJ] at f
  have p:∀ k,o.dst=some k→k < N:=by
   intro k e
   have:=f.1
   rw [e] at this
   simpa using this
  have:=zcY (Q:=Q) p h j
  simp only [wpList]
  rcases this with ⟨m,q⟩|⟨m,b,n,c⟩
  ·rw [if_pos m]
   left
   refine Oper.wp_mono ?_ q
   rintro g i ⟨b,n,c⟩
   exact zc0 f.2 d n c
  ·rw [if_neg (by simp [m])]
   exact zc0 f.2 d n c
structure Cx where
 P:Program
 W0:Base
 h0:Hp
 N:Nat
@[irreducible] def T (x:Cx) (st:St) (c:Code) (Q:Exit→St→Prop):Prop :=
 ∀ a W,Conc x.W0 x.h0 x.N st a W→c.wp x.P (fun e a' W'=>∃ st',Q e st'∧Conc x.W0 x.h0 x.N st' a' W') a W
def zc1 (n:St→Prop) (Q:Exit→St→Prop):Exit→St→Prop
 | .normal,st=>n st
 | e,st=>Q e st
def zc2 (id:Nat) (Q:Exit→St→Prop):Exit→St→Prop
 | .exit i,st=>if i=id then Q .normal st else Q (.exit i) st
 | e,st=>Q e st
end
section
variable {x:Cx} {st:St} {Q:Exit→St→Prop}
theorem zc3 {c d:Code} (h:T x st c (zc1 (fun b=>T x b d Q) Q)):T x st (.seq c d) Q:=by
 unfold T at *
 intro a W i
 refine wp_seq (Code.wp_mono ?_ (h a W i))
 rintro e j k ⟨b,g,f⟩
 cases e with
 | normal=>exact g j k f
 | _=>exact ⟨b,g,f⟩
theorem zc4 {id:Nat} {ops:List Oper} (d:zcZ x.N ops=true) (h:vops x.P ops ops st fun b=>Q .normal b):T x st (.region id ops.toArray false) Q:=by
 unfold T
 intro a W e
 exact wp_region_lit (zc0 d (fun b g i f c=>⟨b,f,c⟩) h e)
theorem zc5 (h:Q .normal st):T x st .skip Q:=by
 unfold T;exact fun a W b=>wp_skip ⟨st,h,b⟩
theorem zc6 {id:Nat} (h:Q (.exit id) st):T x st (.exit id) Q:=by
 unfold T;exact fun a W b=>wp_exit ⟨st,h,b⟩
theorem zc7 (h:Q .ret st):T x st .ret Q:=by
 unfold T;exact fun a W b=>wp_ret ⟨st,h,b⟩
theorem zc8 {id:Nat} {c:Code} (h:T x st c (zc2 id Q)):T x st (.block id c) Q:=by
 unfold T at *
 intro a W j
 refine wp_block (Code.wp_mono ?_ (h a W j))
 rintro e k l ⟨d,b,f⟩
 cases e with
 | exit i =>
  simp only [Exit.inBlock,zc2] at b ⊢
  split
  ·rename_i g;rw [if_pos g] at b;exact ⟨d,b,f⟩
  ·rename_i g;rw [if_neg g] at b;exact ⟨d,b,f⟩
 | _=>exact ⟨d,b,f⟩
theorem zc9 {t:Tmp} {c d:Code} {b:Bool} (h:look t st.e=some (true,.c (.v (.bool b)))) (i:b=true→T x st c Q) (j:b=false→T x st d Q):T x st (.cond (.tmp t) c d) Q:=by
 unfold T at *
 intro a W f
 have g:=f
 obtain ⟨ρ,hfo,_,_⟩:=g
 have k:=hfo.2.2 t true _ h
 refine wp_cond_split (t:=b) (by simp [Act.eval,yL,k]) (fun e=>i e a W f) (fun e=>j e a W f)
def leE (e:Env):Env→Prop
 | []=>True
 | (t,y) :: l=>look t e=some y∧leE e l
def leP (p:List (Nat × PB)):List (Nat × PB)→Prop
 | []=>True
 | (r,b) :: l=>look r p=some b∧leP p l
def St.le (st st':St):Prop:=leE st.e st'.e∧leP st.p st'.p∧st'.h=st.h∧st'.wf=true
theorem zda {e:Env}:∀ {b:Env},leE e b→∀ t y,look t b=some y→look t e=some y
 | [],_,_,_,h=>by cases h
 | (k,x) :: l,h,t,y,a=>by
  simp only [look] at a
  split at a
  ·rename_i c;subst c;simp only [Option.some.injEq] at a;subst a;exact h.1
  ·exact zda h.2 t y a
theorem zdb {p:List (Nat × PB)}:∀ {b:List (Nat × PB)},leP p b→∀ t y,look t b=some y→look t p=some y
 | [],_,_,_,h=>by cases h
 | (k,x) :: l,h,t,y,a=>by
  simp only [look] at a
  split at a
  ·rename_i c;subst c;simp only [Option.some.injEq] at a;subst a;exact h.1
  ·exact zdb h.2 t y a
theorem Conc.weaken {W0:Base} {h0:Hp} {N:Nat} {st b:St} {a:Act} {W:World} (h:st.le b) (d:Conc W0 h0 N st a W):Conc W0 h0 N b a W:=by
 obtain ⟨e,h2,f,g⟩:=h
 obtain ⟨ρ,hf,hW,hw⟩:=d
 refine ⟨ρ,⟨hf.1,hf.2.1,fun t c sv i=>hf.2.2 t c sv (zda e t _ i)⟩,?_,g⟩
 rw [f]
 exact hW.drop (zdb h2)
theorem zdc {b:St} {c:Code} (d:st.le b) (h:T x b c Q):T x st c Q:=by
 unfold T at *
 exact fun a W e=>h a W (e.weaken d)
theorem zdd {P:Program} {c:Code} {Q:Exit→Act→World→Prop} {ι:Type} (I:ι→Act→World→Prop) (μ:ι→Nat)
  (p:∀ i a w,I i a w→c.wp P (Exit.then (fun g w'=>∃ j,μ j < μ i∧I j g w') Q) a w):∀ i a w,I i a w→(Code.loop c).wp P Q a w:=by
 intro i a w h b k cs
 have r:∀ n i a w,μ i=n→I i a w →
   ∃ e g w',Q e g w'∧Arrives P (lone (b.at a (.code c :: .inLoop c :: k)) cs w) b k cs e g w':=by
  intro n
  induction n using JP with
  | _ n y =>
   intro i a w z D
   obtain ⟨e,m,o,f,d⟩:=p i a w D b (.inLoop c :: k) cs
   cases e with
   | normal =>
    obtain ⟨j,s,t⟩:=f
    obtain ⟨F,G,H,u,q⟩:=y (μ j) (z ▸ s) j m o rfl t
    exact ⟨F,G,H,u,.of_steps (Steps.trans d (.one step_inLoop)) q⟩
   | exit id=>exact ⟨_,m,o,f,.pass (x:=.inLoop c) rfl (fun _ _=>.inl (by simp)) d⟩
   | goto l=>exact ⟨_,m,o,f,.pass (x:=.inLoop c) rfl (fun _ _=>.inl (by simp)) d⟩
   | ret=>exact ⟨_,m,o,f,.pass (x:=.inLoop c) rfl (fun _ _=>.inl (by simp)) d⟩
   | panic ch=>exact ⟨_,m,o,f,.pass (x:=.inLoop c) rfl (fun _ _=>.inl (by simp)) d⟩
   | outgrown=>exact ⟨_,m,o,f,.pass (x:=.inLoop c) rfl (fun _ _=>.inl (by simp)) d⟩
 obtain ⟨e,g,w',f,d⟩:=r _ i a w rfl h
 exact ⟨e,g,w',f,.of_steps (.one step_loop) d⟩
theorem zde {ι:Type} {c:Code} (S:ι→St) (ok:ι→Prop) (m:ι→Nat) (g:ι) (h0:ok g) (b:st.le (S g))
  (p:∀ i,ok i→T x (S i) c (zc1 (fun d=>∃ j,ok j∧m j < m i∧d.le (S j)) Q)):T x st (.loop c) Q:=by
 unfold T at *
 intro a W h
 refine zdd (fun i k l=>ok i∧Conc x.W0 x.h0 x.N (S i) k l) m ?_ g a W ⟨h0,h.weaken b⟩
 rintro i a W ⟨q,h⟩
 refine Code.wp_mono ?_ (p i q a W h)
 rintro e k l ⟨d,n,f⟩
 cases e with
 | normal =>
  obtain ⟨j,r,o,b⟩:=n
  exact ⟨j,o,r,f.weaken b⟩
 | _=>exact ⟨d,n,f⟩
def zdf (P:Program) (st:St) (r:ResultVar) (K:Value→Prop):Prop :=
 match r with
 | .tmp t=>onD (some t) fun t=>match look t st.e with
  | some (c,sv)=>c=true∧sv.plain=true∧K sv.pv
  | none=>False
 | .cell t ty=>match look t st.e with
  | some (c,sv)=>c=true∧za2 P st true ty sv fun v=>v.plain=true∧K v.pv
  | none=>False
def zdg (P:Program) (st:St):List ResultVar→(List Value→Prop)→Prop
 | [],K=>K []
 | r :: rs,K=>zdf P st r fun v=>zdg P st rs fun vs=>K (v :: vs)
def zdh:List Value→Value
 | [v]=>v
 | vs=>.tuple vs.toArray
theorem zdi {P:Program} {W0:Base} {h0:Hp} {N:Nat} {st:St} {r:ResultVar} {K:Value→Prop} (j:st.wf=true) (h:zdf P st r K) :
  ∃ v,K v∧∀ ρ a W,FOk N ρ st.e a→WOk W0 h0 ρ st.p st.h W→(match r with
   | .tmp t=>(pure (a.tmps.getD t undef):Sem Value)
   | .cell b t=>do loadVar t (← asAddr (a.tmps.getD b undef))).run P W=.ok v W:=by
 cases r with
 | tmp t =>
  simp only [zdf,onD] at h
  split at h
  ·rename_i c sv d
   obtain ⟨rfl,f,g⟩:=h
   refine ⟨_,g,fun ρ a W i _=>?_⟩
   have:=i.2.2 t true sv d
   simp [yL,this,SV.pv_conc f]
  ·cases h
 | cell t ty =>
  simp only [zdf] at h
  split at h
  ·rename_i c sv d
   obtain ⟨rfl,h⟩:=h
   obtain ⟨v,⟨f,g⟩,_,k⟩:=za7 (W0:=W0) (h0:=h0) j h
   refine ⟨_,g,fun ρ a W i l=>?_⟩
   have m:=i.2.2 t true sv d
   have h2:(Instr.loadAt ty (sv.conc ρ)).run P W=.ok (v.conc ρ) W:=k rfl ρ W l
   rw [SV.pv_conc f] at h2
   have n:a.tmps.getD t undef=sv.conc ρ:=by simp [yL,m]
   simp only [n]
   simp only [Instr.loadAt] at h2
   generalize sv.conc ρ=y at h2
   cases y with
   | pointer b =>
    cases b with
    | none=>simp [Instr.sureAddr,stuck,Sem.run_bind,Sem.run] at h2
    | some b=>simpa [Instr.sureAddr,asAddr,Sem.run_bind] using h2
   | _=>simp [Instr.sureAddr,stuck,Sem.run_bind,Sem.run] at h2
  ·cases h
theorem zdj {P:Program} {W0:Base} {h0:Hp} {N:Nat} {st:St} (c:st.wf=true):∀ {b:List ResultVar} {K:List Value→Prop},zdg P st b K →
  ∃ vs,K vs∧∀ ρ a W,FOk N ρ st.e a→WOk W0 h0 ρ st.p st.h W→(b.mapM (m:=Sem) fun
   | .tmp t=>pure (a.tmps.getD t undef)
   | .cell i t=>do loadVar t (← asAddr (a.tmps.getD i undef))).run P W=.ok vs W
 | [],K,h=>⟨[],h,fun _ _ _ _ _=>rfl⟩
 | r :: b,K,h=>by
  obtain ⟨v,h,j⟩:=zdi (W0:=W0) (h0:=h0) (N:=N) c h
  obtain ⟨vs,h,h2⟩:=zdj (P:=P) c h
  refine ⟨v :: vs,h,fun ρ a W d f=>?_⟩
  rw [List.mapM_cons]
  rw [Sem.run_bind]
  have g:=j ρ a W d f
  have k:=h2 ρ a W d f
  cases r <;> simp only at g <;> simp only [g,Result.andThen_ok,Sem.run_bind,k,Sem.run_pure]
def zdk:Nat→List Value→Env
 | _,[]=>[]
 | i,v :: vs=>(i,true,.of v) :: zdk (i+1) vs
theorem zdl:∀ {vs:List Value} {i t:Nat} {c:Bool} {sv:SV},look t (zdk i vs)=some (c,sv)→∃ j v,t=i+j∧vs[j]?=some v∧c=true∧sv=.of v
 | [],_,_,_,_,h=>by cases h
 | v :: vs,i,t,c,sv,h=>by
  simp only [zdk,look] at h
  split at h
  ·rename_i e;simp only [Option.some.injEq,Prod.mk.injEq] at h;exact ⟨0,v,by omega,rfl,h.1.symm,h.2.symm⟩
  ·obtain ⟨j,u,d,h2,a,b⟩:=zdl h
   exact ⟨j+1,u,by omega,by simpa using h2,a,b⟩
theorem zdm:∀ {vs:List Value} {i n:Nat},zam n (zdk i vs)=true
 | [],_,_=>rfl
 | v :: vs,i,n=>by simp [zdk,zam,SV.of_lt,zdm]
theorem zdn {P:Program} {f:FuncId} {i:Func} {c:Code} {d:List Value} {h:Hp} {R:Value→Hp→Prop} {q:List ResultVar} (u:∀ A W,(callFunc f A).run P W=.ok (.enter f A) W) (K:P.funcs[f]?=some i) (p:i.body=some c) (D:i.results=q.toArray)
  (X:d.length≤i.ntmps)
  (H:∀ W0,T ⟨P,W0,h,i.ntmps⟩ ⟨zdk 0 d,[],h,0⟩ c fun e st=>match e with
   | .normal=>zdg P st q fun vs=>R (zdh vs) st.h
   | .ret=>zdg P st q fun vs=>R (zdh vs) st.h
   | _=>False):Ct P f d h R:=by
 unfold Ct
 refine ⟨u,fun W F=>calls_of_wp K p ?_⟩
 have G:∀ b o,h b=some o→b < W.heap.size:=fun b o p=>(Array.getElem?_eq_some_iff.1 (F b o p)).1
 have H:=H ⟨W,fun g=>W.heap.size≤g,fun _ x=>x⟩
 unfold T at H
 refine Code.wp_mono ?_ (H _ W ⟨fun _=>undef,⟨rfl,by simp;omega,fun t Y sv M=>?_⟩,⟨⟨rfl,rfl,rfl,qV _,fun _ _=>rfl⟩,F,fun b o x _=>x,fun b o s h2=>?_,fun r b g n=>(by cases n),fun r b n=>(by cases n),fun r b g n=>(by cases n),fun r b Z b' g n=>(by cases n)⟩,?_⟩)
 ·rintro e a' W' ⟨st',hq,⟨ρ,hfo,hW,hw⟩⟩
  have fin:(zdg P st' q fun vs=>R (zdh vs) st'.h)→a'.defers=[]∧∃ v,(results i a'.tmps).run P W'=.ok v W'∧∃ J h',Ending.returned v=.returned J∧R J h'∧Below W.heap.size W W'∧h.le h'∧Sees h' W'∧∀ b o,h' b=some o→h b=none→W.heap.size≤b:=by
   intro w
   obtain ⟨vs,y,z⟩:=zdj (P:=P) (W0:=⟨W,fun g=>W.heap.size≤g,fun _ x=>x⟩) (h0:=h) (N:=i.ntmps) hw w
   refine ⟨hfo.1,zdh vs,?_,_,_,rfl,y,⟨hW.below.os,hW.below.tape,hW.below.output,hW.below.size,fun k y=>hW.below.block k (Nat.not_le_of_lt y)⟩,fun b o p=>hW.ext b o p (Nat.not_le_of_lt (G b o p)),hW.sees,hW.new⟩
   have s:(q.toArray.toList.mapM (m:=Sem) fun
    | .tmp t=>pure (a'.tmps.getD t undef)
    | .cell O t=>do loadVar t (← asAddr (a'.tmps.getD O undef))).run P W'=.ok vs W':=z ρ a' W' hfo hW
   unfold results
   rw [D,Sem.run_bind,Array.mapM_eq_mapM_toList]
   have e:∀ m:Sem (List Value),(List.toArray <$> m)=m >>= fun l=>pure l.toArray:=fun _=>rfl
   rw [e,Sem.run_bind]
   refine Eq.trans (congrArg (fun (r:Result (List Value))=>(r.andThen fun a w'=>Sem.run P (pure a.toArray) w').andThen fun a w'=>Sem.run P (pure (if h:a.size=1 then a[0] else Value.tuple a)) w') s) ?_
   simp only [Result.andThen_ok,Sem.run_pure]
   match vs with
   | []=>rfl
   | [v]=>rfl
   | _ :: _ :: _=>rfl
  cases e with
  | normal=>exact fin hq
  | ret=>exact fin hq
  | _=>exact hq.elim
 ·obtain ⟨j,v,s,h2,rfl,rfl⟩:=zdl M
  have Q:j < d.length:=(List.getElem?_eq_some_iff.1 h2).1
  rw [if_pos rfl,SV.conc_of,s,jb]
  have:=(List.getElem?_eq_some_iff.1 h2).2
  simp [Array.getElem?_append,Q,this]
 ·exact absurd (s.symm.trans h2) (by simp)
 ·simp [St.wf,zdm,pbLt]
end
open Go Go.RowKit
section
variable {P:Program} {st:St} {g:Bool} {K:St→Prop} {L:SV→Prop} {ops l:List Oper} {o:Oper}
@[congr] theorem zdo {st a:St} (h:st=a):vops P ops l st K=vops P ops l a K:=by rw [h]
@[go_sem] theorem zdp:vops P ops [] st K=K st:=rfl
@[go_sem] theorem zdq:vops P ops (o :: l) st K=vop P ops st o (fun a=>vops P ops l a K):=rfl
@[congr] theorem zdr {st a:St} (h:st=a):vop P ops st o K=vop P ops a o K:=by rw [h]
@[congr] theorem zds {x a:Option Tmp} {K:Tmp→Prop} (h:x=a):onD x K=onD a K:=by rw [h]
@[congr] theorem zdt {x a:Option (Bool × SV)} {w:Bool} {K:Bool→Prop} (h:x=a):onG x w K=onG a w K:=by rw [h]
@[congr] theorem zdu {st a:St} {g b:Bool} {op:Op} (h:st=a) (c:g=b):vopG P st o g op K=vopG P a o b op K:=by rw [h,c]
@[go_sem] theorem zdv {d:Option Tmp} {op:Op} {ty:TypeId} {a:String} {b:Array Edge}:vop P ops st ⟨d,op,ty,a,b,none⟩ K=vopG P st ⟨d,op,ty,a,b,none⟩ true op K:=rfl
@[go_sem] theorem zdw {d:Option Tmp} {op:Op} {ty:TypeId} {a:String} {b:Array Edge} {j:Nat} {w:Bool}:vop P ops st ⟨d,op,ty,a,b,some (j,w)⟩ K=onD (zb6 ops j) fun c=>onG (look c st.e) w fun g=>vopG P st ⟨d,op,ty,a,b,some (j,w)⟩ g op K:=rfl
@[go_sem] theorem zdx {d:Tmp} {K:Tmp→Prop}:onD (some d) K=K d:=rfl
@[go_sem] theorem zdy {c w:Bool} {sv:SV} {K:Bool→Prop}:onG (some (c,sv)) w K=((c=true→Value.isB sv.val)∧K (c && (Value.B sv.val == w))):=rfl
@[go_sem] theorem zdz {d:Option Tmp} {op:Op} {ty:TypeId} {a:String} {b:Array Edge} {c:Option (Nat × Bool)}:zb6 (⟨d,op,ty,a,b,c⟩ :: l) 0=d:=rfl
@[go_sem] theorem zdA {j:Nat}:zb6 (o :: l) (j+1)=zb6 l j:=rfl
@[go_sem] theorem zdB {α:Type} {t:Nat} {y:α} {l:List (Nat × α)}:look t ((t,y) :: l)=some y:=by simp [look]
@[go_sem] theorem zdC {α:Type} {t k:Nat} {y:α} {l:List (Nat × α)} (h:(k == t)=false):look t ((k,y) :: l)=look t l:=by
 have:k ≠ t:=by simpa using h
 simp [look,this]
def onL (x:Option (Bool × SV)) (g:Bool) (L:SV→Prop):Prop :=
 match x with
 | some (c,sv)=>(g=true→c=true)∧L sv
 | none=>False
@[congr] theorem zdD {x a:Option (Bool × SV)} {g b:Bool} (h:x=a) (c:g=b):onL x g L=onL a b L:=by rw [h,c]
@[congr] theorem zdE {st a:St} {g b:Bool} {x:Operand} (h:st=a) (c:g=b):getO st g x L=getO a b x L:=by rw [h,c]
@[go_sem] theorem zdF {t:Tmp}:getO st g (.tmp t) L=onL (look t st.e) g L:=rfl
@[go_sem] theorem zdG {v:Value}:getO st g (.const v) L=L (.of v):=rfl
@[go_sem] theorem zdH {f:FuncId}:getO st g (.func f) L=L (.c (.v (.func (.func f) #[] #[]))):=rfl
@[go_sem] theorem zdI {c:Bool} {sv:SV}:onL (some (c,sv)) g L=((g=true→c=true)∧L sv):=rfl
@[congr] theorem zdJ {st a:St} {g b:Bool} {xs:List Operand} {L:List SV→Prop} (h:st=a) (c:g=b):zaC st g xs L=zaC a b xs L:=by rw [h,c]
@[go_sem] theorem zdK {L:List SV→Prop}:zaC st g [] L=L []:=rfl
@[go_sem] theorem zdL {x:Operand} {xs:List Operand} {L:List SV→Prop}:zaC st g (x :: xs) L=getO st g x fun v=>zaC st g xs fun vs=>L (v :: vs):=rfl
@[go_sem] theorem zdM {k:IntKind} {n:Int}:SV.of (.int k n)=.c (.v (.int k n)):=rfl
@[go_sem] theorem zdN {b:Bool}:SV.of (.bool b)=.c (.v (.bool b)):=rfl
@[go_sem] theorem zdO {b:ByteArray}:SV.of (.string b)=.c (.v (.string b)):=rfl
@[go_sem] theorem zdP {b:Option Addr}:SV.of (.pointer b)=.c (.v (.pointer b)):=rfl
@[go_sem] theorem zdQ {b:Option Addr} {n c:Nat}:SV.of (.slice b n c)=.c (.v (.slice b n c)):=rfl
@[go_sem] theorem zdR {f:Go.Fn} {x y:Array Value}:SV.of (.func f x y)=.c (.v (.func f x y)):=rfl
@[go_sem] theorem zdS {x:Array Value}:SV.of (.tuple x)=.c (.v (.tuple x)):=rfl
@[go_sem] theorem zdT {x:List Value}:SV.of (.agg x.toArray)=.g (x.map .v):=rfl
@[go_sem] theorem zdU {e:Env} {p:List (Nat × PB)} {h:Hp} {n:Nat} {d:Nat} {sv:SV}:St.put ⟨e,p,h,n⟩ (some d) g sv=⟨(d,g,sv) :: e,p,h,n⟩:=rfl
@[go_sem] theorem zdV {sv:SV}:St.put st none g sv=st:=rfl
@[go_sem] theorem zdW {e:Env} {d:Nat} {sv:SV}:zb5 e (some d) g sv=(d,g,sv) :: e:=rfl
@[go_sem] theorem zdX {e:Env} {sv:SV}:zb5 e none g sv=e:=rfl
@[go_sem] theorem zdY {x:Operand}:vopG P st o g (.move x) K=getO st g x fun sv=>K (st.put o.dst g sv):=rfl
@[go_sem] theorem zdZ {x:Operand}:vopG P st o g (.assign x) K=getO st g x fun sv=>K (st.put o.dst g sv):=rfl
@[go_sem] theorem zd0 {c a b:Operand}:vopG P st o g (.pick c a b) K=getO st g c fun d=>(g=true→Value.isB d.val) ∧
  getO st (g && Value.B d.val) a fun e=>(g=true→Value.B d.val=true→Value.isB e.val) ∧
   getO st (g && !Value.B d.val) b fun f=>(g=true→Value.B d.val=false→Value.isB f.val) ∧
    K (st.put o.dst g (.c (.v (.bool (bif Value.B d.val then Value.B e.val else Value.B f.val))))):=rfl
@[go_sem] theorem zd1 {t:TypeId} {x:Operand}:vopG P st o g (.load t x) K=getO st g x fun v=>za2 P st g t v fun sv=>K (st.put o.dst g sv):=rfl
@[go_sem] theorem zd2 {x:Operand}:vopG P st o g (.nilCheck x) K=getO st g x fun v=>vnil g v fun sv=>K (st.put o.dst g sv):=rfl
@[go_sem] theorem zd3 {b:BinOp} {t d:TypeId} {x y:Operand}:vopG P st o g (.binOp b t x y d) K=getO st g x fun a=>getO st g y fun c=>vbin P g b t a c fun v=>K (st.put o.dst g (.c (.v v))):=rfl
@[go_sem] theorem zd4 {b:UnOp} {t:TypeId} {x:Operand}:vopG P st o g (.unOp b t x) K=getO st g x fun v=>vun g b v fun sv=>K (st.put o.dst g sv):=rfl
@[go_sem] theorem zd5 {s d:TypeId} {x:Operand}:vopG P st o g (.convert s d x) K=getO st g x fun v=>zbv P g s d v fun sv=>K (st.put o.dst g sv):=rfl
@[go_sem] theorem zd6 {t:TypeId} {x:Operand} {f:Nat}:vopG P st o g (.fieldAddr t x f) K=getO st g x fun v=>za8 P g t v f fun sv=>K (st.put o.dst g sv):=rfl
@[go_sem] theorem zd7 {t:TypeId} {x:Operand} {f:Nat}:vopG P st o g (.field t x f) K=getO st g x fun v=>zbg P g t v f fun sv=>K (st.put o.dst g sv):=rfl
@[go_sem] theorem zd8 {t:TypeId} {x i:Operand}:vopG P st o g (.indexAddr t x i) K=getO st g x fun v=>getO st g i fun j=>zbb P st g t v j fun sv=>K (st.put o.dst g sv):=rfl
@[go_sem] theorem zd9 {t:TypeId} {x i:Operand}:vopG P st o g (.index t x i) K=getO st g x fun v=>getO st g i fun j=>zbj P g t v j fun sv=>K (st.put o.dst g sv):=rfl
@[go_sem] theorem zea {x:Operand} {i:Nat}:vopG P st o g (.extract x i) K=getO st g x fun v=>zby g v i fun sv=>K (st.put o.dst g sv):=rfl
@[go_sem] theorem zeb {t:TypeId} {x:Operand} {a b:Option Operand}:vopG P st o g (.slice t x a b none) K=getO st g x fun v=>optO st g a fun l=>optO st g b fun u=>zbA P g t v l u fun sv=>K (st.put o.dst g sv):=rfl
@[go_sem] theorem zec {t:TypeId} {a:List (Nat × Operand)}:vopG P st o g (.build t a.toArray) K=zaC st g (a.map (·.2)) fun vs=>(g=true)∧zbI P t ((a.map (·.1)).zip vs) fun sv=>K (st.put o.dst g sv):=rfl
@[go_sem] theorem zed {t:TypeId} {x:Operand}:vopG P st o g (.call ⟨.builtin .len,#[x],#[t]⟩) K=getO st g x fun v=>vlen P st g t v fun sv=>K (st.put o.dst g sv):=rfl
@[go_sem] theorem zee {t:TypeId} {ts:List TypeId} {xs:List Operand}:vopG P st o g (.call ⟨.builtin .max,xs.toArray,(t :: ts).toArray⟩) K=zaC st g xs fun vs=>zbo P g max t vs fun sv=>K (st.put o.dst g sv):=rfl
@[go_sem] theorem zef {t:TypeId} {ts:List TypeId} {xs:List Operand}:vopG P st o g (.call ⟨.builtin .min,xs.toArray,(t :: ts).toArray⟩) K=zaC st g xs fun vs=>zbo P g min t vs fun sv=>K (st.put o.dst g sv):=rfl
@[go_sem] theorem zeg {t:TypeId}:vopG P st o g (.alloc t) K=(g=true∧zca P t fun z=>K ⟨zb5 st.e o.dst true (.c (.p st.nx 0)),(st.nx,.box t (z.map .v)) :: st.p,st.h,st.nx+1⟩):=rfl
@[go_sem] theorem zeh {t:TypeId} {x:Operand}:vopG P st o g (.box t x) K=(g=true∧getO st true x fun v=>(v.cells.all (·.okc st.p))=true∧K ⟨zb5 st.e o.dst true (.c (.p st.nx 0)),(st.nx,.box t v.cells) :: st.p,st.h,st.nx+1⟩):=rfl
@[go_sem] theorem zei {t:TypeId} {a x:Operand}:vopG P st o g (.store t a x) K=(g=true∧o.dst=none∧getO st true a fun b=>getO st true x fun c=>zb9 P st.p t b c fun p=>K ⟨st.e,p,st.h,st.nx⟩):=rfl
@[go_sem] theorem zej {f:Operand} {xs:List Operand} {ts:Array TypeId}:vopG P st o g (.call ⟨.value f,xs.toArray,ts⟩) K=getO st g f fun a=>zaC st g xs fun vs=>zcj P st g a vs fun v h'=>K ⟨zb5 st.e o.dst g (.of v),st.p,h',st.nx⟩:=rfl
@[go_sem] theorem zek {s x:Operand} {t:TypeId}:vopG P st o g (.call ⟨.builtin .append,#[s,x],#[t,t]⟩) K=(g=true∧t=t∧getO st true s fun vs=>getO st true x fun a =>
   zcg P st t vs a fun e b n xs p=>K ⟨zb5 st.e o.dst true (.c (.s st.nx)),(st.nx,.row e b n xs) :: p,st.h,st.nx+1⟩):=rfl
@[go_sem] theorem zel {t:TypeId} {n:Nat} {a:List (Nat × Operand)}:vopG P st o g (.buildSlice t n a.toArray) K=(g=true∧zaC st true (a.map (·.2)) fun vs=>zcc P t fun e=>0 < szT P e∧zca P e fun z=>z.length=szT P e∧n * szT P e≤16777216∧a.length=n∧zcb (szT P e) 0 (a.map (·.1)) vs ∧
   K (St.mk (zb5 st.e o.dst true (.c (.s st.nx))) ((st.nx,.row e (szT P e) n (vs.flatMap fun x=>x.cells.map (·.val))) :: st.p) st.h (st.nx+1))):=rfl
@[go_sem] theorem zem {t:TypeId} {l c:Operand}:vopG P st o g (.makeSlice t l c) K=(g=true∧zci P st t l c fun e a n xs=>K ⟨zb5 st.e o.dst true (.c (.s st.nx)),(st.nx,.row e a n xs) :: st.p,st.h,st.nx+1⟩):=rfl
@[go_sem] theorem zen {L:Option SV→Prop}:optO st g none L=L none:=rfl
@[go_sem] theorem zeo {x:Operand} {L:Option SV→Prop}:optO st g (some x) L=getO st g x fun v=>L (some v):=rfl
def zep (agg:Bool) (n o:Nat) (g:Bool) (b:Option PB) (L:SV→Prop):Prop :=
 match b with
 | some (.box _ cs)=>if agg=true then (g=true→o+n≤cs.length)∧L (.g (cutC o n cs)) else (g=true→o < cs.length)∧L (.c (cs.getD o (.v undef)))
 | some (.row _ _ _ xs)=>if agg=true then (g=true→o+n≤xs.length)∧L (.g (((xs.drop o).take n).map .v)) else (g=true→o < xs.length)∧L (.c (.v (xs.getD o undef)))
 | none=>False
def zeq (agg:Bool) (n:Nat) (g:Bool) (y:Value) (h:Hp) (L:SV→Prop):Prop :=
 if agg=true then (g=true→Value.isP y∧(h.lds (Value.P y) n).isSome=true)∧L (.g ((h.ldD (Value.P y) n).map .v))
 else (g=true→Value.isP y∧(h.lds (Value.P y) 1).isSome=true)∧L (.c (.v ((h.ldD (Value.P y) 1).getD 0 undef)))
@[congr] theorem zer {c a:Bool} {n d o e:Nat} {b f:Option PB} (h:c=a) (h2:n=d) (i:o=e) (j:b=f):zep c n o g b L=zep a d e g f L:=by rw [h,h2,i,j]
@[congr] theorem zes {b a:Bool} {n c:Nat} {y d:Value} {h h':Hp} (e:b=a) (h2:n=c) (f:y=d) (i:h=h'):zeq b n g y h L=zeq a c g d h' L:=by rw [e,h2,f,i]
@[congr] theorem zet {t:TypeId} {x a:SV} (h:x=a):za2 P st g t x L=za2 P st g t a L:=by rw [h]
@[go_sem] theorem zeu {t:TypeId} {r o:Nat}:za2 P st g t (.c (.p r o)) L=(hasT P t=true∧zep (aggT P t) (szT P t) o g (look r st.p) L):=rfl
@[go_sem] theorem zev {t:TypeId} {y:Value}:za2 P st g t (.c (.v y)) L=(hasT P t=true∧zeq (aggT P t) (szT P t) g y st.h L):=rfl
@[go_sem] theorem zew {n o:Nat} {ty:TypeId} {cs:List SC}:zep true n o g (some (.box ty cs)) L=((g=true→o+n≤cs.length)∧L (.g (cutC o n cs))):=by simp [zep]
@[go_sem] theorem zex {n o:Nat} {ty:TypeId} {cs:List SC}:zep false n o g (some (.box ty cs)) L=((g=true→o < cs.length)∧L (.c (cs.getD o (.v undef)))):=by simp [zep]
@[go_sem] theorem zey {n o:Nat} {e:TypeId} {a m:Nat} {xs:List Value}:zep true n o g (some (.row e a m xs)) L=((g=true→o+n≤xs.length)∧L (.g (((xs.drop o).take n).map .v))):=by simp [zep]
@[go_sem] theorem zez {n o:Nat} {e:TypeId} {a m:Nat} {xs:List Value}:zep false n o g (some (.row e a m xs)) L=((g=true→o < xs.length)∧L (.c (.v (xs.getD o undef)))):=by simp [zep]
@[go_sem] theorem zeA {n:Nat} {y:Value} {h:Hp}:zeq true n g y h L=((g=true→Value.isP y∧(h.lds (Value.P y) n).isSome=true)∧L (.g ((h.ldD (Value.P y) n).map .v))):=by simp [zeq]
@[go_sem] theorem zeB {n:Nat} {y:Value} {h:Hp}:zeq false n g y h L=((g=true→Value.isP y∧(h.lds (Value.P y) 1).isSome=true)∧L (.c (.v ((h.ldD (Value.P y) 1).getD 0 undef)))):=by simp [zeq]
def onF (x:Option (Nat × TypeId)) (K:Nat→TypeId→Prop):Prop :=
 match x with
 | none=>False
 | some (a,b)=>K a b
@[congr] theorem zeC {x a:Option (Nat × TypeId)} {K:Nat→TypeId→Prop} (h:x=a):onF x K=onF a K:=by rw [h]
@[go_sem] theorem zeD {a:Nat} {b:TypeId} {K:Nat→TypeId→Prop}:onF (some (a,b)) K=K a b:=rfl
@[go_sem] theorem zeE {t:TypeId} {f r o:Nat}:za8 P g t (.c (.p r o)) f L=onF (zaW P t f) fun off a=>hasT P a=true∧szT P a ≠ 0∧L (.c (.p r (o+off))):=by
 unfold za8 onF;cases zaW P t f <;> rfl
@[go_sem] theorem zeF {t:TypeId} {f:Nat} {y:Value}:za8 P g t (.c (.v y)) f L=onF (zaW P t f) fun off a=>hasT P a=true∧szT P a ≠ 0∧(g=true→Value.isP y)∧L (.c (.v (.pointer ((Value.P y).map (·.add off))))):=by
 unfold za8 onF;cases zaW P t f <;> rfl
@[congr] theorem zeG {t:TypeId} {x a:SV} {f:Nat} (h:x=a):za8 P g t x f L=za8 P g t a f L:=by rw [h]
def iteF (b:Bool) (x y:Prop):Prop:=if b=true then x else y
@[congr] theorem zeH {b a:Bool} {x y:Prop} (h:b=a):iteF b x y=iteF a x y:=by rw [h]
@[go_sem] theorem zeI {x y:Prop}:iteF true x y=x:=by simp [iteF]
@[go_sem] theorem zeJ {x y:Prop}:iteF false x y=y:=by simp [iteF]
@[congr] theorem zeK {t:TypeId} {x a:SV} {f:Nat} (h:x=a):zbg P g t x f L=zbg P g t a f L:=by rw [h]
@[go_sem] theorem zeL {t:TypeId} {f:Nat} {x:SV}:zbg P g t x f L=onF (zaW P t f) fun off a=>hasT P a=true∧(g=true→isG x)∧iteF (aggT P a) (L (.g (cutC off (szT P a) x.cells))) ((g=true→off < x.cells.length)∧L (.c (x.cells.getD off (.v undef)))):=by
 unfold zbg onF iteF;cases zaW P t f <;> rfl
def onE (x:Option TypeId) (K:TypeId→Prop) (K':Prop):Prop :=
 match x with
 | some e=>K e
 | none=>K'
@[congr] theorem zeM {x a:Option TypeId} {K:TypeId→Prop} {b:Prop} (h:x=a):onE x K b=onE a K b:=by rw [h]
@[go_sem] theorem zeN {e:TypeId} {K:TypeId→Prop} {a:Prop}:onE (some e) K a=K e:=rfl
@[go_sem] theorem zeO {K:TypeId→Prop} {a:Prop}:onE none K a=a:=rfl
def zeP (b:Option PB) (K:Nat→Prop):Prop :=
 match b with
 | some (.row _ _ n _)=>K n
 | _=>False
@[congr] theorem zeQ {x a:Option PB} {K:Nat→Prop} (h:x=a):zeP x K=zeP a K:=by rw [h]
@[go_sem] theorem zeR {e:TypeId} {a n:Nat} {xs:List Value} {K:Nat→Prop}:zeP (some (.row e a n xs)) K=K n:=rfl
@[congr] theorem zeS {t:TypeId} {x a i b:SV} (h:x=a) (h2:i=b):zbb P st g t x i L=zbb P st g t a b L:=by rw [h,h2]
@[go_sem] theorem zeT {t:TypeId} {r:Nat} {i:SV}:zbb P st g t (.c (.s r)) i L=((g=true→∃ k,Value.isI k i.val)∧onE (zaX P t) (fun e=>hasT P e=true∧zeP (look r st.p) fun n=>(g=true→0≤Value.I i.val∧Value.I i.val < n)∧L (.c (.p r ((Value.I i.val).toNat * szT P e)))) False):=by
 unfold zbb onE zeP
 cases zaX P t with
 | none=>cases arrT P t <;> simp
 | some e =>
  simp only
  cases look r st.p with
  | none=>rfl
  | some b=>cases b <;> rfl
@[go_sem] theorem zeU {t:TypeId} {y:Value} {i:SV}:zbb P st g t (.c (.v y)) i L=((g=true→∃ k,Value.isI k i.val)∧onE (zaX P t) (fun e=>hasT P e=true∧(g=true→Value.isA y∧0≤Value.I i.val∧Value.I i.val < Value.L y∧(Value.A y).isSome=true)∧L (.c (.v (.pointer ((Value.A y).map (·.add ((Value.I i.val).toNat * szT P e)))))))
  (onF (arrT P t) fun n e=>hasT P e=true∧(g=true→Value.isP y∧0≤Value.I i.val∧Value.I i.val < n)∧L (.c (.v (.pointer ((Value.P y).map (·.add ((Value.I i.val).toNat * szT P e)))))))):=by
 unfold zbb onE onF
 cases zaX P t with
 | none=>cases arrT P t <;> rfl
 | some e=>rfl
@[go_sem] theorem zeV {t:TypeId} {r o:Nat} {i:SV}:zbb P st g t (.c (.p r o)) i L=((g=true→∃ k,Value.isI k i.val)∧onE (zaX P t) (fun _=>False)
  (onF (arrT P t) fun n e=>hasT P e=true∧(g=true→0≤Value.I i.val∧Value.I i.val < n)∧L (.c (.p r (o+(Value.I i.val).toNat * szT P e))))):=by
 unfold zbb onE onF
 cases zaX P t with
 | none=>cases arrT P t <;> rfl
 | some e=>simp
@[congr] theorem zeW {t:TypeId} {x a:SV} (h:x=a):vlen P st g t x L=vlen P st g t a L:=by rw [h]
@[go_sem] theorem zeX {t:TypeId} {r:Nat}:vlen P st g t (.c (.s r)) L=onE (zaX P t) (fun _=>zeP (look r st.p) fun n=>L (.c (.v (.int .i64 n)))) (vlen P st g t (.c (.s r)) L∧zaX P t=none):=by
 unfold vlen onE zeP
 cases zaX P t with
 | none=>simp
 | some e =>
  simp only
  cases look r st.p with
  | none=>rfl
  | some b=>cases b <;> rfl
@[go_sem] theorem zeY {t:TypeId} {y:Value}:vlen P st g t (.c (.v y)) L=onE (zaX P t) (fun _=>(g=true→Value.isA y)∧L (.c (.v (.int .i64 (Value.L y)))))
  (match arrT P t with
  | some (n,_)=>L (.c (.v (.int .i64 n)))
  | none=>strT P t=true∧(g=true→Value.isS y)∧L (.c (.v (.int .i64 (Value.S y).size)))):=by
 unfold vlen onE
 cases zaX P t <;> rfl
@[go_sem] theorem zeZ {x:Value}:SV.val (.c (.v x))=x:=rfl
@[go_sem] theorem ze0 {x:Value}:SC.val (.v x)=x:=rfl
@[go_sem] theorem ze1 {cs:List SC}:SV.cells (.g cs)=cs:=rfl
@[go_sem] theorem ze2 {r o:Nat}:SV.cells (.c (.p r o))=[.p r o]:=rfl
@[go_sem] theorem ze3 {r:Nat}:SV.cells (.c (.s r))=[.s r]:=rfl
@[go_sem] theorem ze4 {k:IntKind} {n:Int}:SV.cells (.c (.v (.int k n)))=[.v (.int k n)]:=rfl
@[go_sem] theorem ze5 {n:Bool}:SV.cells (.c (.v (.bool n)))=[.v (.bool n)]:=rfl
@[go_sem] theorem ze6 {n:ByteArray}:SV.cells (.c (.v (.string n)))=[.v (.string n)]:=rfl
@[go_sem] theorem ze7 {a:Option Addr} {n c:Nat}:SV.cells (.c (.v (.slice a n c)))=[.v (.slice a n c)]:=rfl
@[go_sem] theorem ze8 {a:Option Addr}:SV.cells (.c (.v (.pointer a)))=[.v (.pointer a)]:=rfl
@[go_sem] theorem ze9 {a:Go.Fn} {x y:Array Value}:SV.cells (.c (.v (.func a x y)))=[.v (.func a x y)]:=rfl
@[go_sem] theorem ev_I {k:IntKind} {n:Int}:Value.I (.int k n)=n:=rfl
@[go_sem] theorem zfa {k a:IntKind} {n:Int}:Value.isI k (.int a n)=(a=k):=rfl
@[go_sem] theorem zfb {a:IntKind} {n:Int}:(∃ k,Value.isI k (.int a n))=True:=eq_true ⟨a,rfl⟩
@[go_sem] theorem ev_B {n:Bool}:Value.B (.bool n)=n:=rfl
@[go_sem] theorem zfc {n:Bool}:Value.isB (.bool n)=True:=rfl
@[go_sem] theorem ev_S {n:ByteArray}:Value.S (.string n)=n:=rfl
@[go_sem] theorem zfd {n:ByteArray}:Value.isS (.string n)=True:=rfl
@[go_sem] theorem ev_P {a:Option Addr}:Value.P (.pointer a)=a:=rfl
@[go_sem] theorem zfe {a:Option Addr}:Value.isP (.pointer a)=(a.isSome=true):=by cases a <;> simp [Value.isP]
@[go_sem] theorem ev_A {a:Option Addr} {n c:Nat}:Value.A (.slice a n c)=a:=rfl
@[go_sem] theorem ev_L {a:Option Addr} {n c:Nat}:Value.L (.slice a n c)=n:=rfl
@[go_sem] theorem ev_C {a:Option Addr} {n c:Nat}:Value.C (.slice a n c)=c:=rfl
@[go_sem] theorem zff {a:Option Addr} {n c:Nat}:Value.isA (.slice a n c)=True:=rfl
@[go_sem] theorem ev_T {x:List Value}:Value.T (.tuple x.toArray)=x:=rfl
@[go_sem] theorem zfg {n:Nat} {x:List Value}:Value.isT n (.tuple x.toArray)=(n < x.length):=by simp [Value.isT]
@[go_sem] theorem zfh {cs:List SC}:isG (.g cs)=True:=rfl
@[go_sem] theorem zfi:zcf (.slice none 0 0)=true:=rfl
@[go_sem] theorem zfj {a:Addr} {n c:Nat}:zcf (.slice (some a) n c)=false:=rfl
@[go_sem] theorem zfk {f:FuncId} {x y:Array Value}:isFn (.func (.func f) x y)=True:=rfl
end
open Go Go.RowKit
section
variable {P:Program} {st:St} {g:Bool} {K:St→Prop} {L:SV→Prop}
@[congr] theorem zfl {x a:SV} (h:x=a):vnil g x L=vnil g a L:=by rw [h]
@[go_sem] theorem zfm {r o:Nat}:vnil g (.c (.p r o)) L=L (.c (.p r o)):=rfl
@[go_sem] theorem zfn {y:Value}:vnil g (.c (.v y)) L=((g=true→Value.isP y∨isFn y)∧L (.c (.v y))):=rfl
@[congr] theorem zfo {op:BinOp} {t:TypeId} {x a y b:SV} {K:Value→Prop} (h:x=a) (h':y=b):vbin P g op t x y K=vbin P g op t a b K:=by rw [h,h']
@[congr] theorem zfp {op:BinOp} {t:TypeId} {x a y b:SV} {K:Value→Prop} {d c:TypeDesc} (h:x=a) (h':y=b) (h2:d=c):zaO P g op t x y K d=zaO P g op t a b K c:=by rw [h,h',h2]
@[go_sem] theorem zfq {op:BinOp} {t:TypeId} {x y:SV} {K:Value→Prop}:vbin P g op t x y K=zaO P g op t x y K ((P.underlying t).getD .invalid):=rfl
@[go_sem] theorem zfr {d a:TypeDesc}:(some d).getD a=d:=rfl
@[congr] theorem zfs {op:BinOp} {k:IntKind} {a c b d:Int} {K:Value→Prop} (h:a=c) (h':b=d):zaF g op k a b K=zaF g op k c d K:=by rw [h,h']
section
variable {t:TypeId} {x y:SV} {K:Value→Prop} {k:IntKind}
@[go_sem] theorem zft:zaO P g .add t x y K (.int k)=((g=true→Value.isI k x.val∧Value.isI k y.val)∧K (.int k (k.wrap (Value.I x.val+Value.I y.val)))):=rfl
@[go_sem] theorem zfu:zaO P g .sub t x y K (.int k)=((g=true→Value.isI k x.val∧Value.isI k y.val)∧K (.int k (k.wrap (Value.I x.val - Value.I y.val)))):=rfl
@[go_sem] theorem zfv:zaO P g .mul t x y K (.int k)=((g=true→Value.isI k x.val∧Value.isI k y.val)∧K (.int k (k.wrap (Value.I x.val * Value.I y.val)))):=rfl
@[go_sem] theorem zfw:zaO P g .quo t x y K (.int k)=((g=true→Value.isI k x.val∧Value.isI k y.val)∧(g=true→Value.I y.val ≠ 0)∧K (.int k (k.wrap ((Value.I x.val).tdiv (Value.I y.val))))):=rfl
@[go_sem] theorem zfx:zaO P g .rem t x y K (.int k)=((g=true→Value.isI k x.val∧Value.isI k y.val)∧(g=true→Value.I y.val ≠ 0)∧K (.int k ((Value.I x.val).tmod (Value.I y.val)))):=rfl
@[go_sem] theorem zfy:zaO P g .and t x y K (.int k)=((g=true→Value.isI k x.val∧Value.isI k y.val)∧K (.int k (zaE .and k (Value.I x.val) (Value.I y.val)))):=rfl
@[go_sem] theorem zfz:zaO P g .or t x y K (.int k)=((g=true→Value.isI k x.val∧Value.isI k y.val)∧K (.int k (zaE .or k (Value.I x.val) (Value.I y.val)))):=rfl
@[go_sem] theorem zfA:zaO P g .xor t x y K (.int k)=((g=true→Value.isI k x.val∧Value.isI k y.val)∧K (.int k (zaE .xor k (Value.I x.val) (Value.I y.val)))):=rfl
@[go_sem] theorem zfB:zaO P g .andNot t x y K (.int k)=((g=true→Value.isI k x.val∧Value.isI k y.val)∧K (.int k (zaE .andNot k (Value.I x.val) (Value.I y.val)))):=rfl
@[go_sem] theorem zfC:zaO P g .shl t x y K (.int k)=((g=true→Value.isI k x.val∧(∃ a,Value.isI a y.val)∧0≤Value.I y.val)∧K (.int k (k.wrap (Value.I x.val * 2 ^ (min (Value.I y.val).toNat k.bits))))):=rfl
@[go_sem] theorem zfD:zaO P g .shr t x y K (.int k)=((g=true→Value.isI k x.val∧(∃ a,Value.isI a y.val)∧0≤Value.I y.val)∧K (.int k ((Value.I x.val).fdiv (2 ^ (min (Value.I y.val).toNat k.bits))))):=rfl
@[go_sem] theorem zfE:zaO P g .eql t x y K (.int k)=((g=true→Value.isI k x.val∧Value.isI k y.val)∧K (.bool (Value.I x.val == Value.I y.val))):=rfl
@[go_sem] theorem zfF:zaO P g .neq t x y K (.int k)=((g=true→Value.isI k x.val∧Value.isI k y.val)∧K (.bool (Value.I x.val != Value.I y.val))):=rfl
@[go_sem] theorem zfG:zaO P g .lss t x y K (.int k)=((g=true→Value.isI k x.val∧Value.isI k y.val)∧K (.bool (decide (Value.I x.val < Value.I y.val)))):=rfl
@[go_sem] theorem zfH:zaO P g .leq t x y K (.int k)=((g=true→Value.isI k x.val∧Value.isI k y.val)∧K (.bool (decide (Value.I x.val≤Value.I y.val)))):=rfl
@[go_sem] theorem zfI:zaO P g .gtr t x y K (.int k)=((g=true→Value.isI k x.val∧Value.isI k y.val)∧K (.bool (decide (Value.I y.val < Value.I x.val)))):=rfl
@[go_sem] theorem zfJ:zaO P g .geq t x y K (.int k)=((g=true→Value.isI k x.val∧Value.isI k y.val)∧K (.bool (decide (Value.I y.val≤Value.I x.val)))):=rfl
@[go_sem] theorem zfK:zaO P g .eql t x y K .bool=((g=true→Value.isB x.val∧Value.isB y.val)∧K (.bool (Value.B x.val == Value.B y.val))):=rfl
@[go_sem] theorem zfL:zaO P g .neq t x y K .bool=((g=true→Value.isB x.val∧Value.isB y.val)∧K (.bool (!(Value.B x.val == Value.B y.val)))):=rfl
@[go_sem] theorem zfM:zaO P g .eql t x y K .string=((g=true→Value.isS x.val∧Value.isS y.val)∧K (.bool ((Value.S x.val).toList == (Value.S y.val).toList))):=rfl
@[go_sem] theorem zfN:zaO P g .neq t x y K .string=((g=true→Value.isS x.val∧Value.isS y.val)∧K (.bool (!((Value.S x.val).toList == (Value.S y.val).toList)))):=rfl
@[go_sem] theorem zfO:zaO P g .add t x y K .string=((g=true→Value.isS x.val∧Value.isS y.val)∧(g=true→(Value.S x.val).size+(Value.S y.val).size≤9223372036854775807)∧K (.string (Value.S x.val ++ Value.S y.val))):=rfl
@[go_sem] theorem zfP {a:List Field}:zaO P g .eql t x y K (.struct a.toArray)=(P.stoodInHeld t=false∧P.eqGuardType P.depth t=false∧a.length ≠ 1∧(g=true→zaI P 0 a (x.cells.map (·.val))∧zaI P 0 a (y.cells.map (·.val)))∧K (.bool (veqs (x.cells.map (·.val)) (y.cells.map (·.val))))):=rfl
@[go_sem] theorem zfQ {a:List Field}:zaO P g .neq t x y K (.struct a.toArray)=(P.stoodInHeld t=false∧P.eqGuardType P.depth t=false∧a.length ≠ 1∧(g=true→zaI P 0 a (x.cells.map (·.val))∧zaI P 0 a (y.cells.map (·.val)))∧K (.bool (!veqs (x.cells.map (·.val)) (y.cells.map (·.val))))):=rfl
end
@[go_sem] theorem zfR:veqs [] []=true:=rfl
@[go_sem] theorem zfS {a b:Value} {c d:List Value}:veqs (a :: c) (b :: d)=(veq a b && veqs c d):=rfl
@[go_sem] theorem zfT {k c:IntKind} {a b:Int}:veq (.int k a) (.int c b)=(a == b):=rfl
@[go_sem] theorem zfU {a b:Bool}:veq (.bool a) (.bool b)=(a == b):=rfl
@[go_sem] theorem zfV {a b:ByteArray}:veq (.string a) (.string b)=(a.toList == b.toList):=rfl
@[go_sem] theorem zfW {i:Nat}:zaI P i [] []=True:=rfl
@[go_sem] theorem zfX {i:Nat} {n:String} {ty:TypeId} {off:Nat} {c:Bool} {a d:String} {e:Nat} {b:List Field} {v:Value} {vs:List Value}:zaI P i (⟨n,ty,off,c,a,d,e⟩ :: b) (v :: vs)=(off=i∧n ≠ "_"∧zaH P ty v∧zaI P (i+1) b vs):=rfl
@[go_sem] theorem zfY {t:TypeId} {k a:IntKind} {n:Int} (h:P.underlying t=some (.int a)):zaH P t (.int k n)=(k=a):=by simp [zaH,h,Value.isI]
@[go_sem] theorem zfZ {t:TypeId} {n:Bool} (h:P.underlying t=some .bool):zaH P t (.bool n)=True:=by simp [zaH,h,Value.isB]
@[go_sem] theorem zf0 {t:TypeId} {n:ByteArray} (h:P.underlying t=some .string):zaH P t (.string n)=True:=by simp [zaH,h,Value.isS]
@[congr] theorem zf1 {op:UnOp} {x a:SV} (h:x=a):vun g op x L=vun g op a L:=by rw [h]
@[go_sem] theorem zf2 {x:SV}:vun g .not x L=((g=true→Value.isB x.val)∧L (.c (.v (.bool (!Value.B x.val))))):=rfl
@[go_sem] theorem zf3 {x:SV}:vun g .neg x L=((g=true→Value.isI .i64 x.val)∧L (.c (.v (.int .i64 (IntKind.i64.wrap (0 - Value.I x.val)))))):=rfl
def onK (x:Option IntKind) (K:IntKind→Prop):Prop :=
 match x with
 | some k=>K k
 | none=>False
@[congr] theorem zf4 {x a:Option IntKind} {K:IntKind→Prop} (h:x=a):onK x K=onK a K:=by rw [h]
@[go_sem] theorem zf5 {k:IntKind} {K:IntKind→Prop}:onK (some k) K=K k:=rfl
@[congr] theorem zf6 {s d:TypeId} {x a:SV} (h:x=a):zbv P g s d x L=zbv P g s d a L:=by rw [h]
@[go_sem] theorem zf7 {s d:TypeId} {x:SV}:zbv P g s d x L=onK (intT P d) fun k=>hasT P s=true∧(g=true→∃ a,Value.isI a x.val)∧L (.c (.v (.int k (k.wrap (Value.I x.val))))):=rfl
@[congr] theorem zf8 {x a:SV} {i:Nat} (h:x=a):zby g x i L=zby g a i L:=by rw [h]
@[go_sem] theorem zf9 {x:SV} {i:Nat}:zby g x i L=((g=true→Value.isT i x.val)∧L (.of ((Value.T x.val).getD i undef))):=rfl
@[congr] theorem zga {f:Int→Int→Int} {t:TypeId} {x a:List SV} (h:x=a):zbo P g f t x L=zbo P g f t a L:=by rw [h]
@[go_sem] theorem zgb {f:Int→Int→Int} {t:TypeId} {x:SV} {xs:List SV}:zbo P g f t (x :: xs) L=onK (intT P t) fun k=>(g=true→Value.isI k x.val∧allI k xs)∧L (.c (.v (.int k (zbn f (Value.I x.val) xs)))):=by
 unfold zbo onK;cases intT P t <;> rfl
@[go_sem] theorem zgc {f:Int→Int→Int} {a:Int}:zbn f a []=a:=rfl
@[go_sem] theorem zgd {f:Int→Int→Int} {a:Int} {x:SV} {xs:List SV}:zbn f a (x :: xs)=zbn f (f a (Value.I x.val)) xs:=rfl
@[go_sem] theorem zge {k:IntKind}:allI k []=True:=rfl
@[go_sem] theorem zgf {k:IntKind} {x:SV} {xs:List SV}:allI k (x :: xs)=(Value.isI k x.val∧allI k xs):=rfl
@[congr] theorem zgg {t:TypeId} {x c:SV} {d a e b:Option SV} (h:x=c) (f:d=a) (h2:e=b):zbA P g t x d e L=zbA P g t c a b L:=by rw [h,f,h2]
def zgh (h:Prop) (lo hi:Int) (y:Value) (sz:Nat) (L:SV→Prop):Prop :=
 h∧L (.c (.v (.slice (if Value.C y=lo.toNat then Value.A y else (Value.A y).map (·.add (lo.toNat * sz))) (hi.toNat - lo.toNat) (Value.C y - lo.toNat))))
@[congr] theorem zgi {h h':Prop} {d a e b:Int} {y f:Value} {g c:Nat} (i:h=h') (j:d=a) (k:e=b) (l:y=f) (m:g=c):zgh h d e y g L=zgh h' a b f c L:=by rw [i,j,k,l,m]
@[go_sem] theorem zgj {h:Prop} {a b:Int} {y:Value} {d:Nat}:zgh h a b y d L=(h∧L (.c (.v (.slice (if Value.C y=a.toNat then Value.A y else (Value.A y).map (·.add (a.toNat * d))) (b.toNat - a.toNat) (Value.C y - a.toNat))))):=rfl
def zgk (h:Prop) (lo hi:Int) (y:Value) (L:SV→Prop):Prop:=h∧L (.c (.v (.string ((Value.S y).extract lo.toNat hi.toNat))))
@[congr] theorem zgl {h h':Prop} {c a d b:Int} {y e:Value} (f:h=h') (g:c=a) (i:d=b) (j:y=e):zgk h c d y L=zgk h' a b e L:=by rw [f,g,i,j]
@[go_sem] theorem zgm {h:Prop} {a b:Int} {y:Value}:zgk h a b y L=(h∧L (.c (.v (.string ((Value.S y).extract a.toNat b.toNat))))):=rfl
@[go_sem] theorem zgn {t:TypeId} {y:Value}:zbA P g t (.c (.v y)) none none L=onE (zaX P t) (fun e=>hasT P e=true∧zgh (g=true→Value.isA y) 0 (Value.L y) y (szT P e) L) (strT P t=true∧zgk (g=true→Value.isS y) 0 (Value.S y).size y L):=by
 unfold zbA onE zgh zgk
 cases zaX P t <;> simp <;> grind
@[go_sem] theorem zgo {t:TypeId} {y:Value} {u:SV}:zbA P g t (.c (.v y)) none (some u) L=onE (zaX P t) (fun e=>hasT P e=true∧zgh (g=true→Value.isA y∧(∃ k,Value.isI k u.val)∧0≤Value.I u.val∧Value.I u.val≤Value.C y) 0 (Value.I u.val) y (szT P e) L)
  (strT P t=true∧zgk (g=true→Value.isS y∧(∃ k,Value.isI k u.val)∧0≤Value.I u.val∧Value.I u.val≤(Value.S y).size) 0 (Value.I u.val) y L):=by
 unfold zbA onE zgh zgk
 cases zaX P t <;> simp
@[go_sem] theorem zgp {t:TypeId} {y:Value} {l:SV}:zbA P g t (.c (.v y)) (some l) none L=onE (zaX P t) (fun e=>hasT P e=true∧zgh (g=true→Value.isA y∧(∃ k,Value.isI k l.val)∧0≤Value.I l.val∧Value.I l.val≤Value.L y) (Value.I l.val) (Value.L y) y (szT P e) L)
  (strT P t=true∧zgk (g=true→Value.isS y∧(∃ k,Value.isI k l.val)∧0≤Value.I l.val∧Value.I l.val≤(Value.S y).size) (Value.I l.val) (Value.S y).size y L):=by
 unfold zbA onE zgh zgk
 cases zaX P t <;> simp
@[go_sem] theorem zgq {t:TypeId} {y:Value} {l u:SV}:zbA P g t (.c (.v y)) (some l) (some u) L=onE (zaX P t) (fun e=>hasT P e=true∧zgh (g=true→Value.isA y∧(∃ k,Value.isI k l.val)∧(∃ k,Value.isI k u.val)∧0≤Value.I l.val∧Value.I l.val≤Value.I u.val∧Value.I u.val≤Value.C y) (Value.I l.val) (Value.I u.val) y (szT P e) L)
  (strT P t=true∧zgk (g=true→Value.isS y∧(∃ k,Value.isI k l.val)∧(∃ k,Value.isI k u.val)∧0≤Value.I l.val∧Value.I l.val≤Value.I u.val∧Value.I u.val≤(Value.S y).size) (Value.I l.val) (Value.I u.val) y L):=by
 unfold zbA onE zgh zgk
 cases zaX P t <;> simp
@[congr] theorem zgr {p b:List (Nat × PB)} {t:TypeId} {a c x d:SV} {M:List (Nat × PB)→Prop} (h:p=b) (e:a=c) (h2:x=d):zb9 P p t a x M=zb9 P b t c d M:=by rw [h,e,h2]
@[congr] theorem zgs {p a:List (Nat × PB)} {t:TypeId} {r c o d:Nat} {b e:Option PB} {x f:SV} {M:List (Nat × PB)→Prop} (h:p=a) (g:r=c) (h2:o=d) (i:b=e) (j:x=f):zb8 P p t r o b x M=zb8 P a t c d e f M:=by rw [h,g,h2,i,j]
@[go_sem] theorem zgt {p:List (Nat × PB)} {t:TypeId} {r o:Nat} {x:SV} {M:List (Nat × PB)→Prop}:zb9 P p t (.c (.p r o)) x M=(hasT P t=true∧zb8 P p t r o (look r p) x M):=rfl
@[go_sem] theorem zgu {p:List (Nat × PB)} {t ty:TypeId} {r o:Nat} {cs:List SC} {x:SV} {M:List (Nat × PB)→Prop}:zb8 P p t r o (some (.box ty cs)) x M=(x.cells.length=szT P t∧o+szT P t≤cs.length∧(x.cells.all (·.okc p))=true∧M (setP r (.box ty (zbG o x.cells cs)) p)):=rfl
@[go_sem] theorem zgv {p:List (Nat × PB)} {t e:TypeId} {r o a n:Nat} {xs:List Value} {x:SV} {M:List (Nat × PB)→Prop}:zb8 P p t r o (some (.row e a n xs)) x M=(x.cells.length=szT P t∧o+szT P t≤xs.length∧(x.cells.all fun c=>zb7 c && c.val.oneCell')=true∧M (setP r (.row e a n (zbG o (x.cells.map (·.val)) xs)) p)):=rfl
@[go_sem] theorem zgw {r:Nat} {b a:PB} {l:List (Nat × PB)}:setP r b ((r,a) :: l)=(r,b) :: l:=by simp [setP]
@[go_sem] theorem zgx {r k:Nat} {b a:PB} {l:List (Nat × PB)} (h:(k == r)=false):setP r b ((k,a) :: l)=(k,a) :: setP r b l:=by
 have:k ≠ r:=by simpa using h
 simp [setP,this]
@[go_sem] theorem zgy {r:Nat}:zb2 r []=[]:=rfl
@[go_sem] theorem zgz {r:Nat} {a:PB} {l:List (Nat × PB)}:zb2 r ((r,a) :: l)=zb2 r l:=by simp [zb2]
@[go_sem] theorem zgA {r k:Nat} {a:PB} {l:List (Nat × PB)} (h:(k == r)=false):zb2 r ((k,a) :: l)=(k,a) :: zb2 r l:=by
 have:k ≠ r:=by simpa using h
 simp [zb2,this]
@[go_sem] theorem zgB {p:List (Nat × PB)} {x:Value}:SC.okc p (.v x)=x.oneCell':=rfl
@[go_sem] theorem zgC {p:List (Nat × PB)} {r o:Nat}:SC.okc p (.p r o)=true:=rfl
def zgD (b:Option PB):Bool :=
 match b with
 | some (.row ..)=>true
 | _=>false
@[go_sem] theorem zgE {p:List (Nat × PB)} {r:Nat}:SC.okc p (.s r)=zgD (look r p):=rfl
@[go_sem] theorem zgF {e:TypeId} {a n:Nat} {xs:List Value}:zgD (some (.row e a n xs))=true:=rfl
@[go_sem] theorem zgG {k:IntKind} {n:Int}:(Value.int k n).oneCell'=true:=rfl
@[go_sem] theorem zgH {n:Bool}:(Value.bool n).oneCell'=true:=rfl
@[go_sem] theorem zgI {n:ByteArray}:(Value.string n).oneCell'=true:=rfl
@[go_sem] theorem zgJ {n:Option Addr}:(Value.pointer n).oneCell'=true:=rfl
@[go_sem] theorem zgK {a:Option Addr} {n c:Nat}:(Value.slice a n c).oneCell'=true:=rfl
@[go_sem] theorem zgL {f:Go.Fn} {x y:Array Value}:(Value.func f x y).oneCell'=true:=rfl
@[go_sem] theorem zgM {x:Value}:zb7 (.v x)=true:=rfl
@[go_sem] theorem zgN {r o:Nat}:zb7 (.p r o)=false:=rfl
@[go_sem] theorem zgO {r:Nat}:zb7 (.s r)=false:=rfl
@[go_sem] theorem zgP {x:SC}:SV.plain (.c x)=zb7 x:=rfl
@[go_sem] theorem zgQ {cs:List SC}:SV.plain (.g cs)=cs.all zb7:=rfl
@[go_sem] theorem zgR {x:SC}:SV.pv (.c x)=x.val:=rfl
@[go_sem] theorem zgS {cs:List SC}:SV.pv (.g cs)=.agg (cs.map (·.val)).toArray:=rfl
@[go_sem] theorem zgT {o n:Nat} {cs:List SC}:cutC o n cs=(cs.drop o).take n:=rfl
@[go_sem] theorem zgU {α:Type} {o:Nat} {new cs:List α}:zbG o new cs=cs.take o ++ (new ++ cs.drop (o+new.length)):=rfl
def onZ (z:Option (List Value)) (K:List Value→Prop):Prop :=
 match z with
 | some z=>K z
 | none=>False
@[congr] theorem zgV {z a:Option (List Value)} {K:List Value→Prop} (h:z=a):onZ z K=onZ a K:=by rw [h]
@[go_sem] theorem zgW {z:List Value} {K:List Value→Prop}:onZ (some z) K=K z:=rfl
@[go_sem] theorem zgX {t:TypeId} {K:List Value→Prop}:zca P t K=onZ (zbF P t) K:=rfl
@[go_sem] theorem zgY {t:TypeId} {K:TypeId→Prop}:zcc P t K=onE (zaX P t) (fun e=>hasT P e=true∧K e) False:=by
 unfold zcc onE;cases zaX P t <;> rfl
@[go_sem] theorem zgZ {a i:Nat}:zcb a i [] []=True:=rfl
@[go_sem] theorem zg0 {a i j:Nat} {b:List Nat} {x:SV} {xs:List SV}:zcb a i (j :: b) (x :: xs)=(j=i∧x.cells.length=a∧x.plain=true∧zcb a (i+1) b xs):=rfl
@[congr] theorem zg1 {st a:St} {t:TypeId} {s b x c:SV} {M:TypeId→Nat→Nat→List Value→List (Nat × PB)→Prop} (h:st=a) (d:s=b) (h2:x=c):zcg P st t s x M=zcg P a t b c M:=by rw [h,d,h2]
@[congr] theorem zg2 {st a:St} {t:TypeId} {s b x c:SV} {M:TypeId→Nat→Nat→List Value→List (Nat × PB)→Prop} (h:st=a) (d:s=b) (h2:x=c):zcd P st t s x M=zcd P a t b c M:=by rw [h,d,h2]
@[congr] theorem zg3 {st a:St} {t:TypeId} {s b:Value} {x c:SV} {M:TypeId→Nat→Nat→List Value→Prop} (h:st=a) (d:s=b) (h2:x=c):zce P st t s x M=zce P a t b c M:=by rw [h,d,h2]
@[congr] theorem zg4 {st a:St} {c b:Nat} {x d:SV} {M:Nat→List Value→Prop} (h:st=a) (e:c=b) (h2:x=d):vsrc st c x M=vsrc a b d M:=by rw [h,e,h2]
@[congr] theorem zg5 {st a:St} {e:TypeId} {c b:Nat} {x d:SV} {M:Nat→List Value→List (Nat × PB)→Prop} (h:st=a) (f:c=b) (h2:x=d):vdst st e c x M=vdst a e b d M:=by rw [h,f,h2]
@[go_sem] theorem zg6 {t:TypeId} {r:Nat} {x:SV} {M:TypeId→Nat→Nat→List Value→List (Nat × PB)→Prop}:zcg P st t (.c (.s r)) x M=zcd P st t (.c (.s r)) x M:=rfl
@[go_sem] theorem zg7 {t:TypeId} {x:SV} {M:TypeId→Nat→Nat→List Value→List (Nat × PB)→Prop}:zcg P st t (.c (.v (.slice none 0 0))) x M=zcd P st t (.c (.v (.slice none 0 0))) x M:=by simp [zcg,zcf]
@[go_sem] theorem zg8 {t:TypeId} {x:SV} {a:Addr} {n c:Nat} {M:TypeId→Nat→Nat→List Value→List (Nat × PB)→Prop}:zcg P st t (.c (.v (.slice (some a) n c))) x M=zce P st t (.slice (some a) n c) x fun e b n xs=>M e b n xs st.p:=by simp [zcg,zcf]
@[go_sem] theorem zg9 {t:TypeId} {s x:SV} {M:TypeId→Nat→Nat→List Value→List (Nat × PB)→Prop}:zcd P st t s x M=zcc P t fun e=>zca P e fun z=>z.length=szT P e∧0 < szT P e ∧
  vsrc st (szT P e) x fun m a=>vdst st e (szT P e) s fun n xs p=>(∀ u ∈ a,u.oneCell'=true)∧n+m≤maxLen∧(n+m) * P.bytesOf e≤140737488355328∧M e (szT P e) (n+m) (xs ++ a) p:=rfl
@[go_sem] theorem zha {t:TypeId} {y:Value} {x:SV} {M:TypeId→Nat→Nat→List Value→Prop}:zce P st t y x M=zcc P t fun e=>zca P e fun z=>z.length=szT P e∧0 < szT P e∧Value.isA y∧Value.C y=Value.L y∧(Value.A y).isSome=true∧(st.h.ldL y (szT P e)).isSome=true ∧
  vsrc st (szT P e) x fun m a=>0 < m∧(∀ u ∈ a,u.oneCell'=true)∧Value.L y+m≤maxLen∧(Value.L y+m) * P.bytesOf e≤140737488355328∧M e (szT P e) (Value.L y+m) ((st.h.ldL y (szT P e)).getD [] ++ a):=rfl
@[go_sem] theorem zhb {a:Nat} {y:Value} {M:Nat→List Value→Prop}:vsrc st a (.c (.v y)) M=(Value.isA y∧(st.h.ldL y a).isSome=true∧M (Value.L y) ((st.h.ldL y a).getD [])):=rfl
def onR (b:Option PB) (K:TypeId→Nat→Nat→List Value→Prop):Prop :=
 match b with
 | some (.row e sz n xs)=>K e sz n xs
 | _=>False
@[congr] theorem zhc {x a:Option PB} {K:TypeId→Nat→Nat→List Value→Prop} (h:x=a):onR x K=onR a K:=by rw [h]
@[go_sem] theorem zhd {e:TypeId} {a n:Nat} {xs:List Value} {K:TypeId→Nat→Nat→List Value→Prop}:onR (some (.row e a n xs)) K=K e a n xs:=rfl
@[go_sem] theorem zhe {a r:Nat} {M:Nat→List Value→Prop}:vsrc st a (.c (.s r)) M=onR (look r st.p) fun _ d m e=>d=a∧M m e:=by
 unfold vsrc onR
 simp only
 cases look r st.p with
 | none=>rfl
 | some b=>cases b <;> rfl
@[go_sem] theorem zhf {e:TypeId} {a r:Nat} {M:Nat→List Value→List (Nat × PB)→Prop}:vdst st e a (.c (.s r)) M=onR (look r st.p) fun f d n xs=>f=e∧d=a∧M n xs (zb2 r st.p):=by
 unfold vdst onR
 simp only
 cases look r st.p with
 | none=>rfl
 | some b=>cases b <;> rfl
@[go_sem] theorem zhg {e:TypeId} {a:Nat} {M:Nat→List Value→List (Nat × PB)→Prop}:vdst st e a (.c (.v (.slice none 0 0))) M=M 0 [] st.p:=rfl
@[go_sem] theorem zhh {h:Hp} {q:Option Addr} {n:Nat}:h.ldD q n=(h.lds q n).getD []:=rfl
@[go_sem] theorem zhi {h:Hp} {a:Option Addr} {c b:Nat}:h.ldL (.slice a 0 c) b=some []:=by simp [Hp.ldL,Value.L]
theorem zhj {h:Hp} {b:Nat} {cs:List Value} {e:TypeId} {n:Nat} (a:n=cs.length):(h.ins b (.cells cs.toArray e (0,0))).cellsAt ⟨b,0,none⟩ 0 n=some cs:=by
 subst a
 refine zad rfl fun j v c=>?_
 rw [za4]
 simp [Hp.cell,Hp.ins,c]
@[go_sem] theorem zhk {h:Hp} {b:Nat} {cs:List Value} {e:TypeId} {n:Nat} (a:(n == cs.length)=true):(h.ins b (.cells cs.toArray e (0,0))).lds (some ⟨b,0,none⟩) n=some cs:=by
 exact zhj (by simpa using a)
@[go_sem] theorem zhl {h:Hp} {b:Nat} {cs:List Value} {e:TypeId} {n c a:Nat} (d:(n * a == cs.length)=true):(h.ins b (.cells cs.toArray e (0,0))).ldL (.slice (some ⟨b,0,none⟩) n c) a=some cs:=by
 have d:n * a=cs.length:=by simpa using d
 unfold Hp.ldL
 split
 ·rename_i h0
  have:n=0:=h0
  subst this
  have:cs=[]:=uj (by omega)
  rw [this]
 ·exact zhj d
@[congr] theorem zhm {st a:St} {t:TypeId} {l c:Operand} {M:TypeId→Nat→Nat→List Value→Prop} (h:st=a):zci P st t l c M=zci P a t l c M:=by rw [h]
@[go_sem] theorem zhn {t:TypeId} {l c:Operand} {M:TypeId→Nat→Nat→List Value→Prop}:zci P st t l c M=zcc P t fun e=>zca P e fun z=>z.length=szT P e∧getO st true l fun b=>getO st true c fun a =>
  (∃ k,Value.isI k b.val)∧(∃ k,Value.isI k a.val)∧0≤Value.I a.val∧Value.I a.val≤maxLen∧P.bytesOf e * (Value.I a.val).toNat≤140737488355328 ∧
  iteF (zch l) (M e (szT P e) 0 []) (Value.I b.val=Value.I a.val∧M e (szT P e) (Value.I a.val).toNat (madeCells z.toArray ((Value.I a.val).toNat * szT P e)).toList):=rfl
@[go_sem] theorem zho {k:IntKind}:zch (.const (.int k 0))=true:=rfl
@[go_sem] theorem zhp {t:Tmp}:zch (.tmp t)=false:=rfl
@[congr] theorem zhq {t:TypeId} {b a:List (Nat × SV)} (h:b=a):zbI P t b L=zbI P t a L:=by rw [h]
@[go_sem] theorem zhr {t:TypeId} {a:List (Nat × SV)}:zbI P t a L=(zbE P t=true∧hasT P t=true∧onZ (zbF P t) fun z=>zbH P t a (z.map .v) fun cs=>L (.g cs)):=by
 unfold zbI onZ;cases zbF P t <;> rfl
def onNN (x:Option (Nat × Nat)) (K:Nat→Nat→Prop):Prop :=
 match x with
 | some (a,b)=>K a b
 | none=>False
@[congr] theorem zhs {x a:Option (Nat × Nat)} {K:Nat→Nat→Prop} (h:x=a):onNN x K=onNN a K:=by rw [h]
@[go_sem] theorem zht {a b:Nat} {K:Nat→Nat→Prop}:onNN (some (a,b)) K=K a b:=rfl
@[congr] theorem zhu {t:TypeId} {c a:List (Nat × SV)} {cs b:List SC} {M:List SC→Prop} (h:c=a) (d:cs=b):zbH P t c cs M=zbH P t a b M:=by rw [h,d]
@[go_sem] theorem zhv {t:TypeId} {cs:List SC} {M:List SC→Prop}:zbH P t [] cs M=M cs:=rfl
def notS:SV→Bool
 | .c (.s _)=>false
 | _=>true
@[go_sem] theorem zhw {cs:List SC}:notS (.g cs)=true:=rfl
@[go_sem] theorem zhx {y:Value}:notS (.c (.v y))=true:=rfl
@[go_sem] theorem zhy {r o:Nat}:notS (.c (.p r o))=true:=rfl
theorem zhz {x:SV}:(∀ r,x ≠ .c (.s r))=(notS x=true):=by
 apply propext
 constructor
 ·intro h
  unfold notS
  split
  ·rename_i r;exact (h r rfl).elim
  ·rfl
 ·rintro h r rfl
  cases h
@[go_sem] theorem zhA {t:TypeId} {i:Nat} {x:SV} {l:List (Nat × SV)} {cs:List SC} {M:List SC→Prop}:zbH P t ((i,x) :: l) cs M=onNN (zbD P t i) fun off a=>x.cells.length=a∧off+a≤cs.length∧notS x=true∧zbH P t l (zbG off x.cells cs) M:=by
 rw [← zhz]
 conv=>lhs;unfold zbH
 unfold onNN
 cases zbD P t i <;> rfl
@[congr] theorem zhB {st a:St} {d b:SV} {vs c:List SV} {M:Value→Hp→Prop} (h:st=a) (e:d=b) (h2:vs=c):zcj P st g d vs M=zcj P a g b c M:=by rw [h,e,h2]
@[congr] theorem zhC {st:St} {f:FuncId} {xs xs':List Value} {M:Value→Hp→Prop} (a:xs=xs'):vfn P st g f xs M=vfn P st g f xs' M:=by rw [a]
@[go_sem] theorem zhD {f:FuncId} {a cs:List Value} {vs:List SV} {M:Value→Hp→Prop}:zcj P st g (.c (.v (.func (.func f) a.toArray cs.toArray))) vs M=((vs.all (·.plain))=true∧vfn P st g f (a ++ (vs.map (·.pv) ++ cs)) M):=rfl
theorem zhE {f:FuncId} {xs:List Value} {M:Value→Hp→Prop} {R:Value→Hp→Prop} (h:Ct P f xs st.h R) (a:∀ v h',st.h.le h'→R v h'→M v h'):vfn P st true f xs M:=by
 unfold vfn
 exact ⟨R,fun _=>h,.inl ⟨rfl,a⟩⟩
theorem zhF {f:FuncId} {xs:List Value} {M:Value→Hp→Prop} {V:Value} (h:g=true→Ct P f xs st.h fun v h'=>v=V∧h'=st.h) (a:M V st.h):vfn P st g f xs M:=by
 unfold vfn
 exact ⟨_,h,.inr ⟨V,fun _ _ x=>x,a⟩⟩
@[congr] theorem zhG {st a:St} {b:List ResultVar} {M:List Value→Prop} (h:st=a):zdg P st b M=zdg P a b M:=by rw [h]
@[congr] theorem zhH {st a:St} {r:ResultVar} {M:Value→Prop} (h:st=a):zdf P st r M=zdf P a r M:=by rw [h]
@[go_sem] theorem zhI {M:List Value→Prop}:zdg P st [] M=M []:=rfl
@[go_sem] theorem zhJ {r:ResultVar} {a:List ResultVar} {M:List Value→Prop}:zdg P st (r :: a) M=zdf P st r fun v=>zdg P st a fun vs=>M (v :: vs):=rfl
@[go_sem] theorem zhK {t:Tmp} {M:Value→Prop}:zdf P st (.tmp t) M=onL (look t st.e) true fun sv=>sv.plain=true∧M sv.pv:=by
 unfold zdf onL onD
 simp only
 cases look t st.e with
 | none=>rfl
 | some x=>obtain ⟨c,sv⟩:=x;simp
@[go_sem] theorem zhL {t:Tmp} {ty:TypeId} {M:Value→Prop}:zdf P st (.cell t ty) M=onL (look t st.e) true fun sv=>za2 P st true ty sv fun v=>v.plain=true∧M v.pv:=by
 unfold zdf onL
 simp only
 cases look t st.e with
 | none=>rfl
 | some x=>obtain ⟨c,sv⟩:=x;simp
@[go_sem] theorem zhM {v:Value}:zdh [v]=v:=rfl
@[go_sem] theorem zhN:zdh []=.tuple #[]:=rfl
@[go_sem] theorem zhO {v u:Value} {l:List Value}:zdh (v :: u :: l)=.tuple (v :: u :: l).toArray:=rfl
@[go_sem] theorem zhP {i:Nat}:zdk i []=[]:=rfl
@[go_sem] theorem zhQ {i:Nat} {v:Value} {vs:List Value}:zdk i (v :: vs)=(i,true,.of v) :: zdk (i+1) vs:=rfl
@[go_sem] theorem zhR {e a:Env} {p b:List (Nat × PB)} {h h':Hp} {n c:Nat}:St.le ⟨e,p,h,n⟩ ⟨a,b,h',c⟩=(leE e a∧leP p b∧h'=h∧(zam c a && pbLt c b)=true):=rfl
@[go_sem] theorem zhS {e:Env}:leE e []=True:=rfl
@[go_sem] theorem zhT {e l:Env} {t:Nat} {y:Bool × SV}:leE e ((t,y) :: l)=(look t e=some y∧leE e l):=rfl
@[go_sem] theorem zhU {p:List (Nat × PB)}:leP p []=True:=rfl
@[go_sem] theorem zhV {p l:List (Nat × PB)} {r:Nat} {b:PB}:leP p ((r,b) :: l)=(look r p=some b∧leP p l):=rfl
@[go_sem] theorem zhW {n:Nat}:zam n []=true:=rfl
@[go_sem] theorem zhX {n t:Nat} {c:Bool} {sv:SV} {l:Env}:zam n ((t,c,sv) :: l)=(sv.lt n && zam n l):=rfl
@[go_sem] theorem zhY {n:Nat}:pbLt n []=true:=rfl
@[go_sem] theorem zhZ {n r:Nat} {b:PB} {l:List (Nat × PB)}:pbLt n ((r,b) :: l)=(decide (r < n) && b.lt n && pbLt n l):=rfl
@[go_sem] theorem zh0 {n:Nat} {x:SC}:SV.lt n (.c x)=x.lt n:=rfl
@[go_sem] theorem zh1 {n:Nat} {cs:List SC}:SV.lt n (.g cs)=cs.all (·.lt n):=rfl
@[go_sem] theorem zh2 {n:Nat} {x:Value}:SC.lt n (.v x)=true:=rfl
@[go_sem] theorem zh3 {n r o:Nat}:SC.lt n (.p r o)=decide (r < n):=rfl
@[go_sem] theorem zh4 {n r:Nat}:SC.lt n (.s r)=decide (r < n):=rfl
@[go_sem] theorem zh5 {n:Nat} {ty:TypeId} {cs:List SC}:PB.lt n (.box ty cs)=cs.all (·.lt n):=rfl
@[go_sem] theorem zh6 {n:Nat} {e:TypeId} {a m:Nat} {xs:List Value}:PB.lt n (.row e a m xs)=true:=rfl
end
section
variable {n:St→Prop} {Q:Exit→St→Prop} {st:St} {i id:Nat}
theorem zh7:zc1 n Q .normal st=n st:=rfl
theorem zh8:zc1 n Q (.exit i) st=Q (.exit i) st:=rfl
theorem zh9:zc1 n Q .ret st=Q .ret st:=rfl
theorem zia:zc2 id Q .normal st=Q .normal st:=rfl
theorem zib:zc2 id Q .ret st=Q .ret st:=rfl
theorem zic:zc2 i Q (.exit i) st=Q .normal st:=by simp [zc2]
theorem zid (h:(i == id)=false):zc2 id Q (.exit i) st=Q (.exit i) st:=by
 have:i ≠ id:=by simpa using h
 simp [zc2,this]
attribute [go_sem] zh7 zh8 zh9 zia zib zic zid
end
theorem zie {x:Cx} {st:St} {Q:Exit→St→Prop} {id:Nat} {ops:List Oper} {d:Code} (b:zcZ x.N ops=true) (h:vops x.P ops ops st fun a=>T x a d Q):T x st (.seq (.region id ops.toArray false) d) Q :=
 zc3 (zc4 b h)
@[congr] theorem zif {x:Cx} {st a:St} {c:Code} {Q:Exit→St→Prop} (h:st=a):T x st c Q=T x a c Q:=by rw [h]
theorem zig {b:Bool}:(b == true)=b:=by cases b <;> rfl
theorem zih {b:Bool}:(b == false)=!b:=by cases b <;> rfl
theorem zii {b:Bool}:((!b)=true)=(b=false):=by cases b <;> simp
theorem zij {b c:Bool}:(bif b then c else false)=(b && c):=by cases b <;> rfl
theorem zik {b c:Bool}:(bif b then true else c)=(b || c):=by cases b <;> rfl
theorem zil {p q:Prop}:(p→q→p)=True:=eq_true fun h _=>h
theorem zim {p:Prop}:(p→p)=True:=by simp
theorem zin {a:IntKind}:(∃ k,a=k)=True:=eq_true ⟨a,rfl⟩
attribute [go_sem] zin
attribute [go_sem] zig zih zii zij zik zim zil
attribute [go_sem] eq_self true_and and_true true_implies implies_true if_true if_false Bool.and_true Bool.true_and List.length_cons List.length_nil List.all_cons List.all_nil
 List.map_cons List.map_nil List.flatMap_cons List.flatMap_nil List.append_nil List.nil_append List.cons_append List.drop_zero List.drop_succ_cons List.take_zero List.take_succ_cons List.drop_nil List.take_nil
 List.getD_cons_zero List.getD_cons_succ Option.map_some Option.map_none Option.isSome_some Option.isSome_none Option.getD_some Option.getD_none List.zip_cons_cons List.zip_nil_right
 jJ and_imp ne_eq not_true_eq_false not_false_eq_true List.forall_mem_cons List.not_mem_nil false_implies and_self decide_true
open Go Go.RowKit
structure Sl (α:Type) where
 a:Option Addr
 cap:Nat
 l:List α
class Enc (α:Type) where
 size:Nat
 enc:α→List Value
 len:∀ x,(enc x).length=size
 one:∀ x,∀ u ∈ enc x,u.oneCell'=true
 ok:Hp→α→Prop
 mono:∀ {h h':Hp} {x:α},h.le h'→ok h x→ok h' x
def Sl.val {α:Type} (s:Sl α):Value:=.slice s.a s.l.length s.cap
def Sl.Ok {α:Type} [Enc α] (h:Hp) (s:Sl α):Prop :=
 s.l.length≤s.cap∧(s.l ≠ []→s.a.isSome=true)∧(∀ i x,s.l[i]?=some x→h.lds (s.a.map (·.add (i * Enc.size α))) (Enc.size α)=some (Enc.enc x))∧(∀ x ∈ s.l,Enc.ok h x)∧s.cap≤maxLen
theorem Sl.Ok.mono {α:Type} [Enc α] {h h':Hp} {s:Sl α} (b:h.le h') (H:s.Ok h):s.Ok h' :=
 ⟨H.1,H.2.1,fun i x a=>zaf b (H.2.2.1 i x a),fun x a=>Enc.mono b (H.2.2.2.1 x a),H.2.2.2.2⟩
instance {α:Type} [Enc α]:Enc (Sl α) where
 size:=1
 enc s:=[s.val]
 len _:=rfl
 one s u hu:=by simp only [ya] at hu;subst hu;rfl
 ok h s:=s.Ok h
 mono hs H:=H.mono hs
def I64 (n:Int):Prop:=-9223372036854775808≤n∧n≤9223372036854775807
instance:Enc Int where
 size:=1
 enc n:=[.int .i64 n]
 len _:=rfl
 one n u hu:=by simp only [ya] at hu;subst hu;rfl
 ok _ n:=I64 n
 mono _ H:=H
section
variable {α:Type} [Enc α] {h:Hp} {s:Sl α}
theorem Sl.Ok.at (H:s.Ok h) {i:Nat} (b:i < s.l.length):h.lds (s.a.map (·.add (i * Enc.size α))) (Enc.size α)=some (Enc.enc s.l[i]):=H.2.2.1 i _ (qX b)
theorem Sl.Ok.some (H:s.Ok h) {i:Nat} (b:i < s.l.length):s.a.isSome=true:=H.2.1 (by intro e;rw [e] at b;simp at b)
theorem Sl.Ok.el (H:s.Ok h) {i:Nat} (a:i < s.l.length):Enc.ok h s.l[i]:=H.2.2.2.1 _ (qd a)
theorem Sl.Ok.max (H:s.Ok h):s.l.length≤9223372036854775807:=wK H.1 (by have:=H.2.2.2.2;simpa [maxLen] using this)
theorem zio {α:Type} {f:α→List Value} {k:Nat} (b:∀ x,(f x).length=k) (c:0 < k):∀ (l:List α) (j:Nat),(l.flatMap f)[j]?=(l[j / k]?).bind fun x=>(f x)[j % k]?
 | [],j=>by simp
 | x :: l,j=>by
  rw [wV,List.getElem?_append,b x]
  by_cases a:j < k
  ·rw [if_pos a,Nat.div_eq_of_lt a,uv a];rfl
  ·rw [if_neg a,zio b c l (j - k)]
   have d:j / k=(j - k) / k+1:=by rw [← Nat.add_sub_cancel' (Nat.le_of_not_lt a),Jy,Nat.add_div_left _ c]
   have e:j % k=(j - k) % k:=by
    conv=>lhs;rw [← Nat.add_sub_cancel' (Nat.le_of_not_lt a)]
    rw [Nat.add_mod_left]
   rw [d,e]
   rfl
theorem ziq {α:Type} {f:α→List Value} {k:Nat} (a:∀ x,(f x).length=k) (l:List α):(l.flatMap f).length=l.length * k:=by
 induction l with
 | nil=>simp
 | cons x l b=>rw [wV,jP,a,b,qv,yP,JQ,uV]
theorem zir (a:Addr) (i j:Nat):(a.add i).add j=a.add (i+j):=by
 unfold Addr.add
 by_cases b:i=0 <;> by_cases c:j=0 <;> simp [b,c,Nat.add_assoc]
theorem Sl.Ok.all (H:s.Ok h) (g:0 < Enc.size α):h.ldL s.val (Enc.size α)=Option.some (s.l.flatMap Enc.enc):=by
 unfold Hp.ldL
 show (if s.l.length=0 then _ else h.lds s.a (s.l.length * Enc.size α))=_
 split
 ·rename_i h0
  rw [List.length_eq_zero_iff] at h0
  rw [h0];rfl
 ·rename_i h0
  have c:s.l ≠ []:=by intro e;rw [e] at h0;simp at h0
  obtain ⟨i,b⟩:=Option.isSome_iff_exists.1 (H.2.1 c)
  rw [b]
  refine zad (ziq Enc.len s.l) fun j v d=>?_
  rw [zio Enc.len g] at d
  obtain ⟨x,k,m⟩:=Option.bind_eq_some_iff.1 d
  have f:=H.2.2.1 _ x k
  rw [b] at f
  have h2:=(zac (show h.cellsAt (i.add (j / Enc.size α * Enc.size α)) 0 _=Option.some (Enc.enc x) from f)).2 _ v m
  rw [zir,jb] at h2
  rwa [jb,← Nat.div_add_mod' j (Enc.size α)]
end
theorem zis {α:Type} {s:Sl α}:SV.of s.val=.c (.v s.val):=rfl
theorem zit {α:Type} {s:Sl α}:Value.A s.val=s.a:=rfl
theorem ziu {α:Type} {s:Sl α}:Value.L s.val=s.l.length:=rfl
theorem ziv {α:Type} {s:Sl α}:Value.C s.val=s.cap:=rfl
theorem ziw {α:Type} {s:Sl α}:Value.isA s.val=True:=rfl
theorem zix {α:Type} {s:Sl α}:SV.cells (.c (.v s.val))=[.v s.val]:=rfl
theorem ziy {α:Type} {s:Sl α}:s.val.oneCell'=true:=rfl
attribute [go_sem] zis zit ziu ziv ziw zix ziy
theorem ziz {n:Int}:Enc.enc n=[.int .i64 n]:=rfl
theorem ziA {α:Type} [Enc α] {s:Sl α}:Enc.enc s=[s.val]:=rfl
attribute [go_sem] ziz ziA jW Option.isSome_map
structure Pass where
 ship:Int
 seg:Int
 toward:Bool
 start:Int
 fin:Int
def Pass.enc (p:Pass):List Value:=[.int .i64 p.ship,.int .i64 p.seg,.bool p.toward,.int .i64 p.start,.int .i64 p.fin]
instance:Enc Pass where
 size:=5
 enc p:=p.enc
 len _:=rfl
 one p u hu:=by simp only [Pass.enc,yv,wB,or_false] at hu;rcases hu with rfl|rfl|rfl|rfl|rfl <;> rfl
 ok _ p:=I64 p.ship∧I64 p.seg∧I64 p.start∧I64 p.fin
 mono _ H:=H
structure Opt where
 start:Int
 arr:Int
 cost:Int
 pas:Sl Pass
def Opt.enc (p:Opt):List Value:=[.int .i64 p.start,.int .i64 p.arr,.int .i64 p.cost,p.pas.val]
instance:Enc Opt where
 size:=4
 enc p:=p.enc
 len _:=rfl
 one p u hu:=by simp only [Opt.enc,yv,wB,or_false] at hu;rcases hu with rfl|rfl|rfl|rfl <;> rfl
 ok h p:=I64 p.start∧I64 p.arr∧I64 p.cost∧p.pas.Ok h
 mono hs H:=⟨H.1,H.2.1,H.2.2.1,H.2.2.2.mono hs⟩
theorem ziB {p:Pass}:Enc.enc p=[.int .i64 p.ship,.int .i64 p.seg,.bool p.toward,.int .i64 p.start,.int .i64 p.fin]:=rfl
theorem ziC {p:Opt}:Enc.enc p=[.int .i64 p.start,.int .i64 p.arr,.int .i64 p.cost,p.pas.val]:=rfl
attribute [go_sem] ziB ziC
open Go Go.RowKit
def isQ:Op→Bool
 | .move _|.assign _|.pick ..|.load ..|.nilCheck _|.binOp ..|.unOp ..|.convert ..|.fieldAddr ..|.field ..|.indexAddr ..|.index ..|.extract ..=>true
 | .call c=>match c.callee with
  | .builtin .len=>true
  | _=>false
 | _=>false
section
variable {P:Program} {W0:Base} {h0:Hp} {N:Nat} {st:St} {g:Bool}
theorem ziD {o:Oper} {op:Op} {K:St→Prop} (a:isQ op=true) (h:vopG P st o g op K):vq P st g op fun sv=>K (st.put o.dst g sv):=by
 cases op <;> simp only [isQ] at a <;> first|exact h|cases a|skip
 case call c =>
  obtain ⟨b,d,e⟩:=c
  simp only at a
  split at a
  ·subst_vars
   exact h
  ·cases a
abbrev Tk:=Oper × Value × Act
def SD (P:Program) (ops:Array Oper) (D:List Tk) (W:World):Prop :=
 ∀ t ∈ D,Region.wanted t.1 (yielded ops t.2.2.tmps)=true→(execOp t.2.2.eval t.1).run P W=.ok (.value t.2.1) W
def FrD (ops:Array Oper) (D:List Tk) (a:Act):Prop :=
 ∀ t ∈ D,execOp a.eval t.1=execOp t.2.2.eval t.1∧Region.wanted t.1 (yielded ops a.tmps)=Region.wanted t.1 (yielded ops t.2.2.tmps)∧∀ d,t.1.dst=some d→a.tmps[d]?=some t.2.1
def ziE (o:Oper):Bool:=match o.op with|.select ..=>false|_=>true
theorem ziF {o:Oper} (h:ziE o=true):∀ cs b,o.op ≠ .select cs b:=by
 intro cs b e;simp [ziE,e] at h
theorem ziG {a:Act} {b:Option Tmp} {v:Value} {d:Tmp} (h:b ≠ some d):(a.put b v).tmps[d]?=a.tmps[d]?:=by
 cases b with
 | none=>rfl
 | some e =>
  have:e ≠ d:=fun x=>h (by rw [x])
  simp [Act.put,uB this]
def ziH (ops:Array Oper) (k o:Oper):Bool:=match o.dst with
 | some d=>!(k.looksAt ops).contains d && k.dst != some d
 | none=>true
theorem ziI {ops:Array Oper} {k o:Oper} (h:ziH ops k o=true):(∀ d,k.dst=some d→o.dst ≠ some d)∧(∀ d,o.dst=some d→d ∉ k.looksAt ops):=by
 unfold ziH at h
 refine ⟨fun d a e=>?_,fun d a=>?_⟩
 ·simp [e,a] at h
 ·simp [a] at h;exact h.1
theorem FrD.put {ops:Array Oper} {D:List Tk} {a:Act} {o:Oper} {u:Value} (h:FrD ops D a) (g:∀ t ∈ D,ziE t.1=true∧ziH ops t.1 o=true):FrD ops D (a.put o.dst u):=by
 intro t b
 obtain ⟨i,h2,j⟩:=h t b
 obtain ⟨k,l⟩:=g t b
 obtain ⟨m,c⟩:=ziI l
 refine ⟨by rw [execOp_put t.1 (ziF k) a o.dst u c,i],by rw [wanted_put t.1 a o.dst u c,h2],fun d f=>?_⟩
 rw [ziG (fun e=>m d f e)]
 exact j d f
theorem FrD.defers {ops:Array Oper} {D:List Tk} {a:Act} {b:List Deferred} (h:FrD ops D a):FrD ops D { a with defers:=b }:=h
def dstE (o:Oper) (e e':Env):Prop :=
 match o.dst with
 | some d=>look d e'=look d e
 | none=>False
def vre (P:Program) (ops:List Oper) (st:St):List Oper→Prop
 | []=>True
 | o :: l=>isQ o.op=true∧(vop P ops st o fun st'=>dstE o st.e st'.e)∧vre P ops st l
theorem ziJ {ops:List Oper} {D:List Tk} {a:Act} {W:World} (q:Conc W0 h0 N st a W) (l:FrD ops.toArray D a) (h:vre P ops st (D.map (·.1))):SD P ops.toArray D W:=by
 induction D with
 | nil=>intro t f;cases f
 | cons t D r =>
  obtain ⟨s,i,h2⟩:=h
  intro j b
  rcases List.mem_cons.1 b with rfl|b
  ·intro u
   obtain ⟨w,x,y⟩:=l j (qC ..)
   obtain ⟨ρ,hf,hW,hwf⟩:=q
   obtain ⟨g,i,k⟩:=zcn (N:=N) (o:=j.1) rfl i
   replace k:=k ρ a hf
   obtain ⟨sv,c,G,z⟩:=zbS (P:=P) (W0:=W0) (h0:=h0) (N:=N) hwf (ziD s i)
   have m:g=true:=by rw [← k,x];exact u
   subst m
   have n:=z rfl ρ a W hf hW
   rw [w] at n
   unfold dstE at c
   split at c
   ·rename_i d p
    have F:look d st.e=some (true,sv):=by
     rw [← c]
     simp [St.put,zb5,p,look]
    have:=hf.2.2 d true sv F
    rw [y d p] at this
    simp only [if_true,Option.some.injEq] at this
    rw [n,this]
   ·exact c.elim
  ·exact r (fun t f=>l t (qg _ f)) h2 j b
theorem ziK {o:Oper} {K:Act→World→Prop} {Q:Exit→Act→World→Prop} {a:Act} {W:World} (h:o.wp P a W K Q):o.wp P a W (fun g j=>(∃ u k,g=Act.put { a with defers:=k } o.dst u)∧K g j) Q:=by
 unfold Oper.wp at *
 generalize (execOp a.eval o).run P W=r at *
 cases r with
 | ok n w' =>
  cases n <;> simp only [Oper.upon] at h ⊢
  case value u=>exact ⟨⟨u,a.defers,rfl⟩,h⟩
  case skip=>exact ⟨⟨_,a.defers,rfl⟩,h⟩
  case defer d=>exact ⟨⟨_,d :: a.defers,rfl⟩,h⟩
  case enter f args =>
   refine Calls.mono h fun e i b=>?_
   cases e with
   | returned u=>exact ⟨⟨u,a.defers,rfl⟩,b⟩
   | panicked c=>exact b
   | outgrown=>exact b
  case row row args=>exact Rows.mono h fun u i b=>⟨⟨u,a.defers,rfl⟩,b⟩
 | halt x w'=>cases x <;> simp only [Oper.upon] at h ⊢ <;> exact h
def QN (x:Cx) (K:St→Prop):Exit→Act→World→Prop:=fun e a W=>e=.normal∧∃ st',K st'∧Conc x.W0 x.h0 x.N st' a W
@[irreducible] def V (x:Cx) (ops:List Oper) (tk:List Oper) (fuel:Nat) (listed:Array Bool) (st:St) (K:St→Prop):Prop :=
 ∀ (D:List Tk),D.map (·.1)=tk→∀ a W,Conc x.W0 x.h0 x.N st a W→FrD ops.toArray D a→SD x.P ops.toArray D W →
  wpAnyH x.P .any ops.toArray (QN x K) (SD x.P ops.toArray D) fuel listed a W
def tkOk (ops:List Oper) (tk:List Oper) (o:Oper):Bool:=tk.all fun k=>ziE k && ziH ops.toArray k o
def ziL (ops:List Oper) (o:Oper) (N:Nat):Bool:=match o.dst with|some d=>decide (d < N) && !(o.looksAt ops.toArray).contains d|none=>false
def ziM (ops:List Oper) (listed:Array Bool) (tk:List Oper) (i:Nat) (o:Oper) (N:Nat):Bool :=
 Region.noSelect ops.toArray && Region.free .any ops.toArray listed i && (Region.ready .any ops.toArray listed).contains i && isQ o.op && ziE o && ziL ops o N && tkOk ops tk o
theorem ziN {ops tk:List Oper} {o:Oper} {D:List Tk} (h:tkOk ops tk o=true) (a:D.map (·.1)=tk):∀ t ∈ D,ziE t.1=true∧ziH ops.toArray t.1 o=true:=by
 intro t b
 have:=List.all_eq_true.1 h t.1 (by rw [← a];exact uX b)
 simpa using this
theorem ziO {b:Region.Mode} {ops:Array Oper} {Q:Exit→Act→World→Prop} {S c:World→Prop} (d:∀ w,S w→c w):∀ (fuel:Nat) (listed:Array Bool) (a:Act) (w:World),wpAnyH P b ops Q S fuel listed a w→wpAnyH P b ops Q c fuel listed a w
 | 0,_,_,_,h=>h
 | fuel+1,_,_,_,h=>⟨h.1,fun i e=>wpOp_mono (fun f w' h'=>⟨d _ h'.1,ziO d fuel _ f w' h'.2⟩) (h.2 i e)⟩
variable {x:Cx} {ops tk:List Oper} {fuel:Nat} {listed:Array Bool} {K:St→Prop}
theorem ziP {P:Program} {W0:Base} {h0:Hp} {N:Nat} {st:St} {o:Oper} {K:St→Prop} (c:isQ o.op=true) (b:st.wf=true) (h:vop P ops st o K) :
  ∃ g sv,K (st.put o.dst g sv)∧sv.lt st.nx=true∧(g=true→Yv P W0 h0 N st o sv)∧∀ ρ a,FOk N ρ st.e a→Region.wanted o (yielded ops.toArray a.tmps)=g:=by
 obtain ⟨g,h,d⟩:=zcn (N:=N) (o:=o) rfl h
 obtain ⟨sv,f,i,j⟩:=zbS (P:=P) (W0:=W0) (h0:=h0) (N:=N) b (ziD c h)
 exact ⟨g,sv,f,i,j,d⟩
theorem ziQ (i:Nat) {o:Oper} (M:ops[i]?=some o) (r:ziM ops listed tk i o x.N=true)
  (h:isQ o.op=true→st.wf=true→∃ g sv,V x ops (o :: tk) fuel (listed.setIfInBounds i true) (st.put o.dst g sv) K∧sv.lt st.nx=true∧(g=true→Yv x.P x.W0 x.h0 x.N st o sv)∧∀ ρ a,FOk x.N ρ st.e a→Region.wanted o (yielded ops.toArray a.tmps)=g):V x ops tk (fuel+1) listed st K:=by
 unfold V at *
 intro D y a W O Q R
 simp only [ziM,jJ] at r
 obtain ⟨⟨⟨⟨⟨⟨X,Y⟩,Z⟩,c4⟩,c5⟩,f⟩,c7⟩:=r
 obtain ⟨ρ,hf,hW,hwf⟩:=O
 obtain ⟨g,sv,k1,k2,k3,k⟩:=h c4 hwf
 replace k:=k ρ a hf
 unfold ziL at f
 split at f
 case h_2=>cases f
 rename_i d q
 simp only [jJ,JD,jd,Jb,JH] at f
 have z:ops.toArray[i]?=some o:=by simpa using M
 let v:Value:=if g=true then sv.conc ρ else undef
 let m:List Tk:=(o,v,a) :: D
 have F:Conc x.W0 x.h0 x.N (st.put o.dst g sv) (a.put o.dst v) W:=Conc.put_q hwf (fun n e=>by rw [q] at e;cases e;exact f.1) hf hW k2 rfl
 have p:∀ n,o.dst=some n→n ∉ o.looksAt ops.toArray:=fun n e=>by rw [q] at e;cases e;exact f.2
 have G:FrD ops.toArray m (a.put o.dst v):=by
  intro t b
  rcases List.mem_cons.1 b with rfl|b
  ·refine ⟨execOp_put o (ziF c5) a o.dst v p,wanted_put o a o.dst v p,fun n e=>?_⟩
   simp only at e
   rw [q] at e;cases e
   have J:d < a.tmps.size:=by rw [hf.2.1];exact f.1
   simp [Act.put,q,J]
  ·exact Q.put (ziN c7 y) t b
 have s:SD x.P ops.toArray m W:=by
  intro t b l
  rcases List.mem_cons.1 b with rfl|b
  ·have u:g=true:=by rw [← k];exact l
   have:=k3 u ρ a W hf hW
   simp only [v,u,if_true]
   exact this
  ·exact R t b l
 have hy:YieldsIf x.P ops.toArray (SD x.P ops.toArray m) o v a:=by
  cases j:g with
  | true=>exact .inl ⟨by rw [k,j],fun w l=>l (o,v,a) (qC ..) (by rw [k,j])⟩
  | false=>exact .inr ⟨by rw [k,j],by simp [v,j]⟩
 have H:=k1 m (by simp [m,y]) _ W F G s
 refine ziO (fun w l=>fun t b=>l t (qg _ b)) _ _ _ _ (wpAnyH_take z X Y Z ?_ hy s H)
 rintro c a' w ⟨e,_⟩
 cases e
def isMv:Op→Bool
 | .move _|.assign _=>true
 | _=>false
theorem ziR {a:Operand→Value} {o:Oper} {v:Value} {W:World} (b:isMv o.op=true) (h:(execOp a o).run P W=.ok (.value v) W) (c:World):(execOp a o).run P c=.ok (.value v) c:=by
 obtain ⟨d,op,ty,e,af,gd⟩:=o
 cases op <;> simp only [isMv] at b <;> first|cases b|skip
 ·simp only [execOp,Sem.run_pure] at h ⊢
  simpa using h
 ·simp only [execOp,Sem.run_pure] at h ⊢
  simpa using h
theorem ziS (i:Nat) {o:Oper} (r:ops[i]?=some o) (k:ziM ops listed tk i o x.N=true) (s:isMv o.op=true)
  (h:isQ o.op=true→st.wf=true→∃ g sv,V x ops tk fuel (listed.setIfInBounds i true) (st.put o.dst g sv) K∧sv.lt st.nx=true∧(g=true→Yv x.P x.W0 x.h0 x.N st o sv)∧∀ ρ a,FOk x.N ρ st.e a→Region.wanted o (yielded ops.toArray a.tmps)=g):V x ops tk (fuel+1) listed st K:=by
 unfold V at *
 intro D l a W t u m
 simp only [ziM,jJ] at k
 obtain ⟨⟨⟨⟨⟨⟨y,z⟩,F⟩,G⟩,Y⟩,f⟩,J⟩:=k
 obtain ⟨ρ,hf,hW,hwf⟩:=t
 obtain ⟨g,sv,M,O,Q,j⟩:=h G hwf
 replace j:=j ρ a hf
 unfold ziL at f
 split at f
 case h_2=>cases f
 rename_i d R
 simp only [jJ,JD,jd,Jb,JH] at f
 have n:ops.toArray[i]?=some o:=by simpa using r
 let v:Value:=if g=true then sv.conc ρ else undef
 have p:Conc x.W0 x.h0 x.N (st.put o.dst g sv) (a.put o.dst v) W:=Conc.put_q hwf (fun Z e=>by rw [R] at e;cases e;exact f.1) hf hW O rfl
 have q:FrD ops.toArray D (a.put o.dst v):=u.put (ziN J l)
 have X:YieldsIf x.P ops.toArray (SD x.P ops.toArray D) o v a:=by
  cases b:g with
  | true =>
   refine .inl ⟨by rw [j,b],fun w hw=>?_⟩
   have:=Q b ρ a W hf hW
   simp only [v,b,if_true]
   exact ziR s this w
  | false=>exact .inr ⟨by rw [j,b],by simp [v,b]⟩
 have H:=M D l _ W p q m
 refine wpAnyH_take n y z F ?_ X m H
 rintro c a' w ⟨e,_⟩
 cases e
def onO (x:Option Oper) (K:Oper→Prop):Prop :=
 match x with
 | some o=>K o
 | none=>False
def vbr (x:Cx) (ops tk:List Oper) (fuel:Nat) (listed:Array Bool) (st:St) (K:St→Prop):List Nat→Prop
 | []=>True
 | i :: rs=>(onO ops[i]? fun o=>vop x.P ops st o fun st'=>vre x.P ops st' tk∧V x ops tk fuel (listed.setIfInBounds i true) st' K)∧vbr x ops tk fuel listed st K rs
def brOk (ops tk:List Oper) (N:Nat) (rs:List Nat):Bool:=rs.all fun i=>match ops[i]? with
 | some o=>tkOk ops tk o && (match o.dst with|some d=>decide (d < N)|none=>true)
 | none=>false
theorem ziT (g:List Nat) (w:Region.ready .any ops.toArray listed=g) (b:(!g.isEmpty && brOk ops tk x.N g)=true)
  (h:vbr x ops tk fuel listed st K g):V x ops tk (fuel+1) listed st K:=by
 simp only [jJ,jd] at b
 unfold V at *
 intro D k a W H y X
 refine wpAnyH_all w (by intro e;rw [e] at b;simp at b) fun i m=>?_
 have n:=List.all_eq_true.1 b.2 i m
 clear b w
 induction g with
 | nil=>cases m
 | cons j g J =>
  obtain ⟨l,h2⟩:=h
  rcases List.mem_cons.1 m with rfl|m
  ·unfold onO at l
   cases q:ops[i]? with
   | none=>rw [q] at l;exact l.elim
   | some o =>
    rw [q] at l n
    simp only [jJ] at l n
    have z:ops.toArray[i]?=some o:=by simpa using q
    have M:∀ r,o.dst=some r→r < x.N:=by
     intro r e
     have:=n.2
     rw [e] at this
     simpa using this
    unfold wpOp
    simp only [z]
    rcases zcY (Q:=QN x K) M l H with ⟨s,F⟩|⟨s,G,⟨t,p⟩,c⟩
    ·rw [if_pos s]
     left
     refine Oper.wp_mono ?_ (ziK F)
     rintro Y O ⟨⟨u,R,rfl⟩,G,⟨t,p⟩,c⟩
     have d:FrD ops.toArray D (Act.put { a with defers:=R } o.dst u):=FrD.put (FrD.defers y) (ziN n.1 k)
     have f:=ziJ (P:=x.P) c d (by rw [k];exact t)
     unfold V at p
     exact ⟨f,p D k _ O c d f⟩
    ·rw [if_neg (by simp [s])]
     have d:FrD ops.toArray D (a.put o.dst undef):=y.put (ziN n.1 k)
     have f:=ziJ (P:=x.P) c d (by rw [k];exact t)
     unfold V at p
     exact ⟨f,p D k _ W c d f⟩
  ·exact J h2 m
theorem ziU (b:Region.ready .any ops.toArray listed=[]) (h:K st):V x ops tk fuel listed st K:=by
 unfold V
 intro D d a W c e f
 exact wpAnyH_done b ⟨rfl,st,h,c⟩ fuel
theorem Conc.drew {a:Act} {W:World} (h:Conc W0 h0 N st a W):Conc W0 h0 N st a { W with drawn:=W.drawn+1 }:=by
 obtain ⟨ρ,hf,hW,hw⟩:=h
 exact ⟨ρ,hf,hW.grow (h':=st.h) ((Below.refl _ _).drew) (Hp.le_refl _) (fun b o c=>hW.sees b o c) (fun b o d h2=>by rw [d] at h2;cases h2),hw⟩
theorem ziV {Q:Exit→St→Prop} {id:Nat} (f:x.P.follows .mixedOrders=true) (h:V x ops [] ops.length (Array.replicate ops.length false) st fun b=>Q .normal b):T x st (.region id ops.toArray true) Q:=by
 unfold T
 unfold V at h
 intro a W g
 refine Code.wp_mono ?_ (wp_region_held (id:=id) (Q:=QN x fun b=>Q .normal b) (S:=SD x.P ops.toArray []) f (h [] rfl a _ g.drew (fun t c=>by cases c) (fun t c=>by cases c)))
 rintro e j k ⟨rfl,b,i,d⟩
 exact ⟨b,i,d⟩
end
def ziW (ops:List Oper):List Nat→Option (List (Nat × Oper))
 | []=>some []
 | i :: is=>match ops[i]?,ziW ops is with
  | some o,some l=>some ((i,o) :: l)
  | _,_=>none
def ziX (ops:List Oper) (N:Nat):List (Nat × Oper)→Nat→Array Bool→List Oper→Bool
 | [],_,_,_=>true
 | _ :: _,0,_,_=>false
 | (i,o) :: l,fuel+1,listed,tk=>ziM ops listed tk i o N && ziX ops N l fuel (listed.setIfInBounds i true) (if isMv o.op=true then tk else o :: tk)
def ziY (o:Oper) (tk:List Oper):List Oper:=if isMv o.op=true then tk else o :: tk
def ziZ:List (Nat × Oper)→List Oper→List Oper
 | [],tk=>tk
 | (_,o) :: l,tk=>ziZ l (ziY o tk)
def zi0:List (Nat × Oper)→Array Bool→Array Bool
 | [],listed=>listed
 | (i,_) :: l,listed=>zi0 l (listed.setIfInBounds i true)
section
variable {x:Cx} {ops:List Oper} {K:St→Prop}
theorem zi1:∀ {c:List Nat} {l:List (Nat × Oper)},ziW ops c=some l→∀ a ∈ l,ops[a.1]?=some a.2
 | [],l,h,a,b=>by simp only [ziW,Option.some.injEq] at h;subst h;cases b
 | i :: c,l,h,a,b=>by
  simp only [ziW] at h
  split at h
  ·rename_i o f d e
   simp only [Option.some.injEq] at h
   subst h
   rcases List.mem_cons.1 b with rfl|b
   ·exact d
   ·exact zi1 e a b
  ·cases h
theorem zi2 {r:St→Prop}:∀ {l:List (Nat × Oper)} {fuel:Nat} {listed:Array Bool} {tk:List Oper} {st:St},(∀ d ∈ l,ops[d.1]?=some d.2)→ziX ops x.N l fuel listed tk=true →
  vops x.P ops (l.map (·.2)) st r→(∀ c,r c→V x ops (ziZ l tk) (fuel - l.length) (zi0 l listed) c K)→V x ops tk fuel listed st K
 | [],fuel,listed,tk,st,_,_,h,j=>j _ h
 | _ :: _,0,_,_,_,_,a,_,_=>by simp [ziX] at a
 | (i,o) :: l,fuel+1,listed,tk,st,k,a,h,j=>by
  simp only [ziX,jJ] at a
  by_cases e:isMv o.op=true
  ·refine ziS i (k _ (qC ..)) a.1 e fun m f=>?_
   obtain ⟨g,sv,n,p⟩:=ziP (W0:=x.W0) (h0:=x.h0) (N:=x.N) m f h
   have b:=a.2
   rw [if_pos e] at b
   exact ⟨g,sv,zi2 (fun d q=>k d (qg _ q)) b n (fun c h'=>by simpa [ziZ,ziY,zi0,e] using j c h'),p⟩
  have b:=a.2
  rw [if_neg e] at b
  refine ziQ i (k _ (qC ..)) a.1 fun m f=>?_
  obtain ⟨g,sv,n,p⟩:=ziP (W0:=x.W0) (h0:=x.h0) (N:=x.N) m f h
  exact ⟨g,sv,zi2 (fun d q=>k d (qg _ q)) b n (fun c h'=>by simpa [ziZ,ziY,zi0,e] using j c h'),p⟩
theorem zi3 (c:List Nat) {l:List (Nat × Oper)} {fuel:Nat} {listed:Array Bool} {tk:List Oper} {st:St} (d:ziW ops c=some l) (a:ziX ops x.N l fuel listed tk=true)
  (h:vops x.P ops (l.map (·.2)) st fun b=>V x ops (ziZ l tk) (fuel - l.length) (zi0 l listed) b K):V x ops tk fuel listed st K :=
 zi2 (zi1 d) a h fun _ h=>h
def zi4 (ops:List Oper):Nat→List Oper→List (Nat × Oper)
 | _,[]=>[]
 | k,o :: l=>(k,o) :: zi4 ops (k+1) l
def zi5 (ops:List Oper):Bool:=(Region.ready .any ops.toArray (zi0 (zi4 ops 0 ops) (Array.replicate ops.length false))).isEmpty
theorem zi6 {ops:List Oper}:∀ {k:Nat} {l:List Oper},(zi4 ops k l).map (·.2)=l∧(zi4 ops k l).length=l.length
 | _,[]=>⟨rfl,rfl⟩
 | k,o :: l=>by simp [zi4,(zi6 (ops:=ops) (k:=k+1) (l:=l)).1,(zi6 (ops:=ops) (k:=k+1) (l:=l)).2]
theorem zi7 {ops:List Oper}:∀ {k:Nat} {l:List Oper},(∀ j,l[j]?=ops[k+j]?)→∀ a ∈ zi4 ops k l,ops[a.1]?=some a.2
 | _,[],_,_,h=>by cases h
 | k,o :: l,b,a,h=>by
  rcases List.mem_cons.1 h with rfl|h
  ·simpa using (b 0).symm
  ·exact zi7 (k:=k+1) (l:=l) (fun j=>by have:=b (j+1);simpa [Nat.add_assoc,uV 1 j] using this) a h
theorem zi8 {st:St} {Q:Exit→St→Prop} {id:Nat} (c:x.P.follows .mixedOrders=true) (a:(ziX ops x.N (zi4 ops 0 ops) ops.length (Array.replicate ops.length false) [] && zi5 ops)=true)
  (h:vops x.P ops ops st fun b=>Q .normal b):T x st (.region id ops.toArray true) Q:=by
 simp only [jJ] at a
 have d:Region.ready .any ops.toArray (zi0 (zi4 ops 0 ops) (Array.replicate ops.length false))=[]:=by simpa [zi5] using a.2
 exact ziV c (zi2 (zi7 (by simp)) a.1 (by rw [zi6.1];exact h) fun b e=>ziU d e)
end
@[congr] theorem zi9 {x:Cx} {ops tk:List Oper} {fuel:Nat} {listed:Array Bool} {st a:St} {K:St→Prop} (h:st=a):V x ops tk fuel listed st K=V x ops tk fuel listed a K:=by rw [h]
section
variable {P:Program} {ops tk l:List Oper} {st:St} {o:Oper} {i:Nat} {x:Cx} {fuel:Nat} {listed:Array Bool} {K:St→Prop}
theorem zja:vre P ops st []=True:=rfl
theorem zjb:vre P ops st (o :: l)=(isQ o.op=true∧(vop P ops st o fun a=>dstE o st.e a.e)∧vre P ops st l):=rfl
theorem zjc:ziZ [] tk=tk:=rfl
theorem zjd {i:Nat} {o:Oper} {l:List (Nat × Oper)} {tk:List Oper}:ziZ ((i,o) :: l) tk=ziZ l (ziY o tk):=rfl
section
variable {d:Option Nat} {t:TypeId} {p:String} {af:Array Edge} {gd:Option (Nat × Bool)} {tk:List Oper} {x y z:Operand} {t1 t2:TypeId} {b:BinOp} {u:UnOp} {n:Nat} {c:Call}
@[go_sem] theorem zje:ziY ⟨d,.move x,t,p,af,gd⟩ tk=tk:=rfl
@[go_sem] theorem zjf:ziY ⟨d,.assign x,t,p,af,gd⟩ tk=tk:=rfl
@[go_sem] theorem zjg:ziY ⟨d,.pick x y z,t,p,af,gd⟩ tk=⟨d,.pick x y z,t,p,af,gd⟩ :: tk:=rfl
@[go_sem] theorem zjh:ziY ⟨d,.load t1 x,t,p,af,gd⟩ tk=⟨d,.load t1 x,t,p,af,gd⟩ :: tk:=rfl
@[go_sem] theorem zji:ziY ⟨d,.nilCheck x,t,p,af,gd⟩ tk=⟨d,.nilCheck x,t,p,af,gd⟩ :: tk:=rfl
@[go_sem] theorem zjj:ziY ⟨d,.binOp b t1 x y t2,t,p,af,gd⟩ tk=⟨d,.binOp b t1 x y t2,t,p,af,gd⟩ :: tk:=rfl
@[go_sem] theorem zjk:ziY ⟨d,.unOp u t1 x,t,p,af,gd⟩ tk=⟨d,.unOp u t1 x,t,p,af,gd⟩ :: tk:=rfl
@[go_sem] theorem zjl:ziY ⟨d,.convert t1 t2 x,t,p,af,gd⟩ tk=⟨d,.convert t1 t2 x,t,p,af,gd⟩ :: tk:=rfl
@[go_sem] theorem zjm:ziY ⟨d,.fieldAddr t1 x n,t,p,af,gd⟩ tk=⟨d,.fieldAddr t1 x n,t,p,af,gd⟩ :: tk:=rfl
@[go_sem] theorem zjn:ziY ⟨d,.field t1 x n,t,p,af,gd⟩ tk=⟨d,.field t1 x n,t,p,af,gd⟩ :: tk:=rfl
@[go_sem] theorem zjo:ziY ⟨d,.indexAddr t1 x y,t,p,af,gd⟩ tk=⟨d,.indexAddr t1 x y,t,p,af,gd⟩ :: tk:=rfl
@[go_sem] theorem zjp:ziY ⟨d,.index t1 x y,t,p,af,gd⟩ tk=⟨d,.index t1 x y,t,p,af,gd⟩ :: tk:=rfl
@[go_sem] theorem zjq:ziY ⟨d,.extract x n,t,p,af,gd⟩ tk=⟨d,.extract x n,t,p,af,gd⟩ :: tk:=rfl
@[go_sem] theorem zjr:ziY ⟨d,.call c,t,p,af,gd⟩ tk=⟨d,.call c,t,p,af,gd⟩ :: tk:=rfl
end
theorem zjs:vbr x ops tk fuel listed st K []=True:=rfl
theorem zjt {b:List Nat}:vbr x ops tk fuel listed st K (i :: b)=((onO ops[i]? fun o=>vop x.P ops st o fun a=>vre x.P ops a tk∧V x ops tk fuel (listed.setIfInBounds i true) a K)∧vbr x ops tk fuel listed st K b):=rfl
theorem zju {K:Oper→Prop}:onO (some o) K=K o:=rfl
theorem zjv {d:Tmp} {op:Op} {ty:TypeId} {a:String} {af:Array Edge} {gd:Option (Nat × Bool)} {e b:Env}:dstE ⟨some d,op,ty,a,af,gd⟩ e b=(look d b=look d e):=rfl
attribute [go_sem] zja zjb zjc zjd zjs zjt zju zjv
attribute [go_sem] List.getElem?_cons_zero List.getElem?_cons_succ Int.ofNat_lt Int.ofNat_le jY
@[congr] theorem zjw {st a:St} {l b:List Oper} (h:st=a) (h':l=b):vre P ops st l=vre P ops a b:=by rw [h,h']
@[congr] theorem zjx {st a:St} {b:List Nat} (h:st=a):vbr x ops tk fuel listed st K b=vbr x ops tk fuel listed a K b:=by rw [h]
@[congr] theorem zjy {x a:Option Oper} {K:Oper→Prop} (h:x=a):onO x K=onO a K:=by rw [h]
end
open Go Go.RowKit
theorem zjz {n:Int} (h:-9223372036854775808≤n∧n≤9223372036854775807):IntKind.i64.wrap n=n:=by
 simp only [IntKind.wrap,IntKind.bits,IntKind.signed,qp,Nat.reduceSub,Int.reducePow]
 split <;> rename_i a <;> simp only [JD,ge_iff_le] at a <;> omega
theorem zjA {k n:Nat} (h:k < n) (a:n≤9223372036854775807):IntKind.i64.wrap ((k:Int)+1)=((k+1:Nat):Int):=by
 rw [zjz (by omega)];rfl
theorem zjB {a b:Int} (h:a=b):(some (true,SV.c (SC.v (Value.int IntKind.i64 a))):Option (Bool × SV))=some (true,SV.c (SC.v (Value.int IntKind.i64 b))):=by rw [h]
theorem atI {h:Hp} {s:Sl Int} (H:s.Ok h) {i:Nat} (b:i < s.l.length):h.lds (qe (·.add (i * 1)) s.a) 1=some [.int .i64 s.l[i]]:=H.at b
theorem zjC {α:Type} {a b:List α} {k:Nat} (c:k < a.length) (d:k < b.length) (h:a.take k=b.take k) (e:a[k]=b[k]):a.take (k+1)=b.take (k+1):=by
 rw [qw c,qw d,h,e]
theorem zjD {α:Type} [BEq α] [LawfulBEq α] {a b:α} (h:(a != b)=true):a ≠ b:=by simpa using h
theorem zjE {α:Type} [BEq α] [LawfulBEq α] {a b:α} (h:(a != b)=false):a=b:=by simpa using h
theorem zjF {p:Prop} [Decidable p] (h:¬p):Value.bool false=Value.bool (decide p):=by rw [decide_eq_false h]
theorem zjG {p:Prop} [Decidable p] (h:p):Value.bool true=Value.bool (decide p):=by rw [JG h]
theorem zjH {k n:Nat} (h:decide (k < n)=true):k < n:=by simpa using h
theorem zjI {k n:Nat} (h:decide (k < n)=false):n≤k:=by simpa using h
structure Crew where
 start:Int
 fin:Int
 pause:Int
 moves:Sl Int
def Crew.cells (c:Crew):List Value:=[.int .i64 c.start,.int .i64 c.fin,.int .i64 c.pause,c.moves.val]
instance:Enc Crew where
 size:=4
 enc p:=p.cells
 len _:=rfl
 one p u hu:=by simp only [Crew.cells,yv,wB,or_false] at hu;rcases hu with rfl|rfl|rfl|rfl <;> rfl
 ok h p:=I64 p.start∧I64 p.fin∧I64 p.pause∧p.moves.Ok h
 mono hs H:=⟨H.1,H.2.1,H.2.2.1,H.2.2.2.mono hs⟩
theorem zjJ {p:Crew}:Enc.enc p=[.int .i64 p.start,.int .i64 p.fin,.int .i64 p.pause,p.moves.val]:=rfl
attribute [go_sem] zjJ
def Crew.v (c:Crew):Value:=.agg #[.int .i64 c.start,.int .i64 c.fin,.int .i64 c.pause,c.moves.val]
end Go.SL
