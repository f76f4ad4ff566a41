/- Plain theorems about the model. -/
import Derived.OrdersHeld
import Derived.Test.YtbkaaakphpbmiaaGreatSAfterReadingx1
set_option linter.unusedVariables false
set_option linter.unusedSimpArgs false
set_option maxRecDepth 4000
open Nat renaming reduceAdd → jq, reduceMul → jj, reduceBEq → jy, reduceLeDiff → jv, reduceLT → jk, reduceEqDiff → jx
open Bool renaming or_eq_false_iff → jp, or_eq_true → jQ, and_eq_true → jJ
open Int renaming toNat_natCast → jW, natCast_nonneg → jY
namespace Go.SL
open Go Go.RowKit
section
variable {P:Program} {st:St} {g:Bool} {K:St→Prop} {L:SV→Prop} {ops l:List Oper} {o:Oper}
@[congr] theorem zdo {st st':St} (h:st=st'):vops P ops l st K=vops P ops l st' K:=by rw [h]
@[go_sem] theorem zdp:vops P ops [] st K=K st:=rfl
@[go_sem] theorem zdq:vops P ops (o :: l) st K=vop P ops st o (fun st'=>vops P ops l st' K):=rfl
@[congr] theorem zdr {st st':St} (h:st=st'):vop P ops st o K=vop P ops st' o K:=by rw [h]
@[congr] theorem zds {x x':Option Tmp} {K:Tmp→Prop} (h:x=x'):onD x K=onD x' K:=by rw [h]
@[congr] theorem zdt {x x':Option (Bool × SV)} {w:Bool} {K:Bool→Prop} (h:x=x'):onG x w K=onG x' w K:=by rw [h]
@[congr] theorem zdu {st st':St} {g g':Bool} {op:Op} (h:st=st') (hg:g=g'):vopG P st o g op K=vopG P st' o g' op K:=by rw [h,hg]
@[go_sem] theorem zdv {d:Option Tmp} {op:Op} {ty:TypeId} {pos:String} {af:Array Edge}:vop P ops st ⟨d,op,ty,pos,af,none⟩ K=vopG P st ⟨d,op,ty,pos,af,none⟩ true op K:=rfl
@[go_sem] theorem zdw {d:Option Tmp} {op:Op} {ty:TypeId} {pos:String} {af:Array Edge} {j:Nat} {w:Bool}:vop P ops st ⟨d,op,ty,pos,af,some (j,w)⟩ K=onD (zb6 ops j) fun dd=>onG (look dd st.e) w fun g=>vopG P st ⟨d,op,ty,pos,af,some (j,w)⟩ g op K:=rfl
@[go_sem] theorem zdx {d:Tmp} {K:Tmp→Prop}:onD (some d) K=K d:=rfl
@[go_sem] theorem zdy {c w:Bool} {sv:SV} {K:Bool→Prop}:onG (some (c,sv)) w K=((c=true→Value.isB sv.val)∧K (c && (Value.B sv.val == w))):=rfl
@[go_sem] theorem zdz {d:Option Tmp} {op:Op} {ty:TypeId} {pos:String} {af:Array Edge} {gd:Option (Nat × Bool)}:zb6 (⟨d,op,ty,pos,af,gd⟩ :: l) 0=d:=rfl
@[go_sem] theorem zdA {j:Nat}:zb6 (o :: l) (j+1)=zb6 l j:=rfl
@[go_sem] theorem zdB {α:Type} {t:Nat} {y:α} {l:List (Nat × α)}:look t ((t,y) :: l)=some y:=by simp [look]
@[go_sem] theorem zdC {α:Type} {t k:Nat} {y:α} {l:List (Nat × α)} (h:(k == t)=false):look t ((k,y) :: l)=look t l:=by
 have:k ≠ t:=by simpa using h
 simp [look,this]
def onL (x:Option (Bool × SV)) (g:Bool) (L:SV→Prop):Prop :=
 match x with
 | some (c,sv)=>(g=true→c=true)∧L sv
 | none=>False
@[congr] theorem zdD {x x':Option (Bool × SV)} {g g':Bool} (h:x=x') (hg:g=g'):onL x g L=onL x' g' L:=by rw [h,hg]
@[congr] theorem zdE {st st':St} {g g':Bool} {x:Operand} (h:st=st') (hg:g=g'):getO st g x L=getO st' g' x L:=by rw [h,hg]
@[go_sem] theorem zdF {t:Tmp}:getO st g (.tmp t) L=onL (look t st.e) g L:=rfl
@[go_sem] theorem zdG {v:Value}:getO st g (.const v) L=L (.of v):=rfl
@[go_sem] theorem zdH {f:FuncId}:getO st g (.func f) L=L (.c (.v (.func (.func f) #[] #[]))):=rfl
@[go_sem] theorem zdI {c:Bool} {sv:SV}:onL (some (c,sv)) g L=((g=true→c=true)∧L sv):=rfl
@[congr] theorem zdJ {st st':St} {g g':Bool} {xs:List Operand} {L:List SV→Prop} (h:st=st') (hg:g=g'):zaC st g xs L=zaC st' g' xs L:=by rw [h,hg]
@[go_sem] theorem zdK {L:List SV→Prop}:zaC st g [] L=L []:=rfl
@[go_sem] theorem zdL {x:Operand} {xs:List Operand} {L:List SV→Prop}:zaC st g (x :: xs) L=getO st g x fun v=>zaC st g xs fun vs=>L (v :: vs):=rfl
@[go_sem] theorem zdM {k:IntKind} {n:Int}:SV.of (.int k n)=.c (.v (.int k n)):=rfl
@[go_sem] theorem zdN {b:Bool}:SV.of (.bool b)=.c (.v (.bool b)):=rfl
@[go_sem] theorem zdO {b:ByteArray}:SV.of (.string b)=.c (.v (.string b)):=rfl
@[go_sem] theorem zdP {b:Option Addr}:SV.of (.pointer b)=.c (.v (.pointer b)):=rfl
@[go_sem] theorem zdQ {b:Option Addr} {n c:Nat}:SV.of (.slice b n c)=.c (.v (.slice b n c)):=rfl
@[go_sem] theorem zdR {f:Go.Fn} {x y:Array Value}:SV.of (.func f x y)=.c (.v (.func f x y)):=rfl
@[go_sem] theorem zdS {x:Array Value}:SV.of (.tuple x)=.c (.v (.tuple x)):=rfl
@[go_sem] theorem zdT {x:List Value}:SV.of (.agg x.toArray)=.g (x.map .v):=rfl
@[go_sem] theorem zdU {e:Env} {p:List (Nat × PB)} {h:Hp} {n:Nat} {d:Nat} {sv:SV}:St.put ⟨e,p,h,n⟩ (some d) g sv=⟨(d,g,sv) :: e,p,h,n⟩:=rfl
@[go_sem] theorem zdV {sv:SV}:St.put st none g sv=st:=rfl
@[go_sem] theorem zdW {e:Env} {d:Nat} {sv:SV}:zb5 e (some d) g sv=(d,g,sv) :: e:=rfl
@[go_sem] theorem zdX {e:Env} {sv:SV}:zb5 e none g sv=e:=rfl
@[go_sem] theorem zdY {x:Operand}:vopG P st o g (.move x) K=getO st g x fun sv=>K (st.put o.dst g sv):=rfl
@[go_sem] theorem zdZ {x:Operand}:vopG P st o g (.assign x) K=getO st g x fun sv=>K (st.put o.dst g sv):=rfl
@[go_sem] theorem zd0 {c a b:Operand}:vopG P st o g (.pick c a b) K=getO st g c fun vc=>(g=true→Value.isB vc.val) ∧
  getO st (g && Value.B vc.val) a fun va=>(g=true→Value.B vc.val=true→Value.isB va.val) ∧
   getO st (g && !Value.B vc.val) b fun vb=>(g=true→Value.B vc.val=false→Value.isB vb.val) ∧
    K (st.put o.dst g (.c (.v (.bool (bif Value.B vc.val then Value.B va.val else Value.B vb.val))))):=rfl
@[go_sem] theorem zd1 {t:TypeId} {x:Operand}:vopG P st o g (.load t x) K=getO st g x fun v=>za2 P st g t v fun sv=>K (st.put o.dst g sv):=rfl
@[go_sem] theorem zd2 {x:Operand}:vopG P st o g (.nilCheck x) K=getO st g x fun v=>vnil g v fun sv=>K (st.put o.dst g sv):=rfl
@[go_sem] theorem zd3 {b:BinOp} {t t':TypeId} {x y:Operand}:vopG P st o g (.binOp b t x y t') K=getO st g x fun a=>getO st g y fun c=>vbin P g b t a c fun v=>K (st.put o.dst g (.c (.v v))):=rfl
@[go_sem] theorem zd4 {b:UnOp} {t:TypeId} {x:Operand}:vopG P st o g (.unOp b t x) K=getO st g x fun v=>vun g b v fun sv=>K (st.put o.dst g sv):=rfl
@[go_sem] theorem zd5 {s d:TypeId} {x:Operand}:vopG P st o g (.convert s d x) K=getO st g x fun v=>zbv P g s d v fun sv=>K (st.put o.dst g sv):=rfl
@[go_sem] theorem zd6 {t:TypeId} {x:Operand} {f:Nat}:vopG P st o g (.fieldAddr t x f) K=getO st g x fun v=>za8 P g t v f fun sv=>K (st.put o.dst g sv):=rfl
@[go_sem] theorem zd7 {t:TypeId} {x:Operand} {f:Nat}:vopG P st o g (.field t x f) K=getO st g x fun v=>zbg P g t v f fun sv=>K (st.put o.dst g sv):=rfl
@[go_sem] theorem zd8 {t:TypeId} {x i:Operand}:vopG P st o g (.indexAddr t x i) K=getO st g x fun v=>getO st g i fun j=>zbb P st g t v j fun sv=>K (st.put o.dst g sv):=rfl
@[go_sem] theorem zd9 {t:TypeId} {x i:Operand}:vopG P st o g (.index t x i) K=getO st g x fun v=>getO st g i fun j=>zbj P g t v j fun sv=>K (st.put o.dst g sv):=rfl
@[go_sem] theorem zea {x:Operand} {i:Nat}:vopG P st o g (.extract x i) K=getO st g x fun v=>zby g v i fun sv=>K (st.put o.dst g sv):=rfl
@[go_sem] theorem zeb {t:TypeId} {x:Operand} {lo hi:Option Operand}:vopG P st o g (.slice t x lo hi none) K=getO st g x fun v=>optO st g lo fun l=>optO st g hi fun u=>zbA P g t v l u fun sv=>K (st.put o.dst g sv):=rfl
@[go_sem] theorem zec {t:TypeId} {ps:List (Nat × Operand)}:vopG P st o g (.build t ps.toArray) K=zaC st g (ps.map (·.2)) fun vs=>(g=true)∧zbI P t ((ps.map (·.1)).zip vs) fun sv=>K (st.put o.dst g sv):=rfl
@[go_sem] theorem zed {t:TypeId} {x:Operand}:vopG P st o g (.call ⟨.builtin .len,#[x],#[t]⟩) K=getO st g x fun v=>vlen P st g t v fun sv=>K (st.put o.dst g sv):=rfl
@[go_sem] theorem zee {t:TypeId} {ts:List TypeId} {xs:List Operand}:vopG P st o g (.call ⟨.builtin .max,xs.toArray,(t :: ts).toArray⟩) K=zaC st g xs fun vs=>zbo P g max t vs fun sv=>K (st.put o.dst g sv):=rfl
@[go_sem] theorem zef {t:TypeId} {ts:List TypeId} {xs:List Operand}:vopG P st o g (.call ⟨.builtin .min,xs.toArray,(t :: ts).toArray⟩) K=zaC st g xs fun vs=>zbo P g min t vs fun sv=>K (st.put o.dst g sv):=rfl
@[go_sem] theorem zeg {t:TypeId}:vopG P st o g (.alloc t) K=(g=true∧zca P t fun z=>K ⟨zb5 st.e o.dst true (.c (.p st.nx 0)),(st.nx,.box t (z.map .v)) :: st.p,st.h,st.nx+1⟩):=rfl
@[go_sem] theorem zeh {t:TypeId} {x:Operand}:vopG P st o g (.box t x) K=(g=true∧getO st true x fun v=>(v.cells.all (·.okc st.p))=true∧K ⟨zb5 st.e o.dst true (.c (.p st.nx 0)),(st.nx,.box t v.cells) :: st.p,st.h,st.nx+1⟩):=rfl
@[go_sem] theorem zei {t:TypeId} {a x:Operand}:vopG P st o g (.store t a x) K=(g=true∧o.dst=none∧getO st true a fun va=>getO st true x fun vx=>zb9 P st.p t va vx fun p=>K ⟨st.e,p,st.h,st.nx⟩):=rfl
@[go_sem] theorem zej {f:Operand} {xs:List Operand} {ts:Array TypeId}:vopG P st o g (.call ⟨.value f,xs.toArray,ts⟩) K=getO st g f fun vf=>zaC st g xs fun vs=>zcj P st g vf vs fun v h'=>K ⟨zb5 st.e o.dst g (.of v),st.p,h',st.nx⟩:=rfl
@[go_sem] theorem zek {s x:Operand} {t:TypeId}:vopG P st o g (.call ⟨.builtin .append,#[s,x],#[t,t]⟩) K=(g=true∧t=t∧getO st true s fun vs=>getO st true x fun vx =>
   zcg P st t vs vx fun e sz n xs p=>K ⟨zb5 st.e o.dst true (.c (.s st.nx)),(st.nx,.row e sz n xs) :: p,st.h,st.nx+1⟩):=rfl
@[go_sem] theorem zel {t:TypeId} {n:Nat} {ps:List (Nat × Operand)}:vopG P st o g (.buildSlice t n ps.toArray) K=(g=true∧zaC st true (ps.map (·.2)) fun vs=>zcc P t fun e=>0 < szT P e∧zca P e fun z=>z.length=szT P e∧n * szT P e≤16777216∧ps.length=n∧zcb (szT P e) 0 (ps.map (·.1)) vs ∧
   K (St.mk (zb5 st.e o.dst true (.c (.s st.nx))) ((st.nx,.row e (szT P e) n (vs.flatMap fun x=>x.cells.map (·.val))) :: st.p) st.h (st.nx+1))):=rfl
@[go_sem] theorem zem {t:TypeId} {l c:Operand}:vopG P st o g (.makeSlice t l c) K=(g=true∧zci P st t l c fun e sz n xs=>K ⟨zb5 st.e o.dst true (.c (.s st.nx)),(st.nx,.row e sz n xs) :: st.p,st.h,st.nx+1⟩):=rfl
@[go_sem] theorem zen {L:Option SV→Prop}:optO st g none L=L none:=rfl
@[go_sem] theorem zeo {x:Operand} {L:Option SV→Prop}:optO st g (some x) L=getO st g x fun v=>L (some v):=rfl
def zep (agg:Bool) (n o:Nat) (g:Bool) (b:Option PB) (L:SV→Prop):Prop :=
 match b with
 | some (.box _ cs)=>if agg=true then (g=true→o+n≤cs.length)∧L (.g (cutC o n cs)) else (g=true→o < cs.length)∧L (.c (cs.getD o (.v undef)))
 | some (.row _ _ _ xs)=>if agg=true then (g=true→o+n≤xs.length)∧L (.g (((xs.drop o).take n).map .v)) else (g=true→o < xs.length)∧L (.c (.v (xs.getD o undef)))
 | none=>False
def zeq (agg:Bool) (n:Nat) (g:Bool) (y:Value) (h:Hp) (L:SV→Prop):Prop :=
 if agg=true then (g=true→Value.isP y∧(h.lds (Value.P y) n).isSome=true)∧L (.g ((h.ldD (Value.P y) n).map .v))
 else (g=true→Value.isP y∧(h.lds (Value.P y) 1).isSome=true)∧L (.c (.v ((h.ldD (Value.P y) 1).getD 0 undef)))
@[congr] theorem zer {agg agg':Bool} {n n' o o':Nat} {b b':Option PB} (h1:agg=agg') (h2:n=n') (h3:o=o') (h4:b=b'):zep agg n o g b L=zep agg' n' o' g b' L:=by rw [h1,h2,h3,h4]
@[congr] theorem zes {agg agg':Bool} {n n':Nat} {y y':Value} {h h':Hp} (h1:agg=agg') (h2:n=n') (h3:y=y') (h4:h=h'):zeq agg n g y h L=zeq agg' n' g y' h' L:=by rw [h1,h2,h3,h4]
@[congr] theorem zet {t:TypeId} {x x':SV} (h:x=x'):za2 P st g t x L=za2 P st g t x' L:=by rw [h]
@[go_sem] theorem zeu {t:TypeId} {r o:Nat}:za2 P st g t (.c (.p r o)) L=(hasT P t=true∧zep (aggT P t) (szT P t) o g (look r st.p) L):=rfl
@[go_sem] theorem zev {t:TypeId} {y:Value}:za2 P st g t (.c (.v y)) L=(hasT P t=true∧zeq (aggT P t) (szT P t) g y st.h L):=rfl
@[go_sem] theorem zew {n o:Nat} {ty:TypeId} {cs:List SC}:zep true n o g (some (.box ty cs)) L=((g=true→o+n≤cs.length)∧L (.g (cutC o n cs))):=by simp [zep]
@[go_sem] theorem zex {n o:Nat} {ty:TypeId} {cs:List SC}:zep false n o g (some (.box ty cs)) L=((g=true→o < cs.length)∧L (.c (cs.getD o (.v undef)))):=by simp [zep]
@[go_sem] theorem zey {n o:Nat} {e:TypeId} {sz m:Nat} {xs:List Value}:zep true n o g (some (.row e sz m xs)) L=((g=true→o+n≤xs.length)∧L (.g (((xs.drop o).take n).map .v))):=by simp [zep]
@[go_sem] theorem zez {n o:Nat} {e:TypeId} {sz m:Nat} {xs:List Value}:zep false n o g (some (.row e sz m xs)) L=((g=true→o < xs.length)∧L (.c (.v (xs.getD o undef)))):=by simp [zep]
@[go_sem] theorem zeA {n:Nat} {y:Value} {h:Hp}:zeq true n g y h L=((g=true→Value.isP y∧(h.lds (Value.P y) n).isSome=true)∧L (.g ((h.ldD (Value.P y) n).map .v))):=by simp [zeq]
@[go_sem] theorem zeB {n:Nat} {y:Value} {h:Hp}:zeq false n g y h L=((g=true→Value.isP y∧(h.lds (Value.P y) 1).isSome=true)∧L (.c (.v ((h.ldD (Value.P y) 1).getD 0 undef)))):=by simp [zeq]
def onF (x:Option (Nat × TypeId)) (K:Nat→TypeId→Prop):Prop :=
 match x with
 | none=>False
 | some (a,b)=>K a b
@[congr] theorem zeC {x x':Option (Nat × TypeId)} {K:Nat→TypeId→Prop} (h:x=x'):onF x K=onF x' K:=by rw [h]
@[go_sem] theorem zeD {a:Nat} {b:TypeId} {K:Nat→TypeId→Prop}:onF (some (a,b)) K=K a b:=rfl
@[go_sem] theorem zeE {t:TypeId} {f r o:Nat}:za8 P g t (.c (.p r o)) f L=onF (zaW P t f) fun off ft=>hasT P ft=true∧szT P ft ≠ 0∧L (.c (.p r (o+off))):=by
 unfold za8 onF;cases zaW P t f <;> rfl
@[go_sem] theorem zeF {t:TypeId} {f:Nat} {y:Value}:za8 P g t (.c (.v y)) f L=onF (zaW P t f) fun off ft=>hasT P ft=true∧szT P ft ≠ 0∧(g=true→Value.isP y)∧L (.c (.v (.pointer ((Value.P y).map (·.add off))))):=by
 unfold za8 onF;cases zaW P t f <;> rfl
@[congr] theorem zeG {t:TypeId} {x x':SV} {f:Nat} (h:x=x'):za8 P g t x f L=za8 P g t x' f L:=by rw [h]
def iteF (b:Bool) (x y:Prop):Prop:=if b=true then x else y
@[congr] theorem zeH {b b':Bool} {x y:Prop} (h:b=b'):iteF b x y=iteF b' x y:=by rw [h]
@[go_sem] theorem zeI {x y:Prop}:iteF true x y=x:=by simp [iteF]
@[go_sem] theorem zeJ {x y:Prop}:iteF false x y=y:=by simp [iteF]
@[congr] theorem zeK {t:TypeId} {x x':SV} {f:Nat} (h:x=x'):zbg P g t x f L=zbg P g t x' f L:=by rw [h]
@[go_sem] theorem zeL {t:TypeId} {f:Nat} {x:SV}:zbg P g t x f L=onF (zaW P t f) fun off ft=>hasT P ft=true∧(g=true→isG x)∧iteF (aggT P ft) (L (.g (cutC off (szT P ft) x.cells))) ((g=true→off < x.cells.length)∧L (.c (x.cells.getD off (.v undef)))):=by
 unfold zbg onF iteF;cases zaW P t f <;> rfl
def onE (x:Option TypeId) (K:TypeId→Prop) (K':Prop):Prop :=
 match x with
 | some e=>K e
 | none=>K'
@[congr] theorem zeM {x x':Option TypeId} {K:TypeId→Prop} {K':Prop} (h:x=x'):onE x K K'=onE x' K K':=by rw [h]
@[go_sem] theorem zeN {e:TypeId} {K:TypeId→Prop} {K':Prop}:onE (some e) K K'=K e:=rfl
@[go_sem] theorem zeO {K:TypeId→Prop} {K':Prop}:onE none K K'=K':=rfl
def zeP (b:Option PB) (K:Nat→Prop):Prop :=
 match b with
 | some (.row _ _ n _)=>K n
 | _=>False
@[congr] theorem zeQ {x x':Option PB} {K:Nat→Prop} (h:x=x'):zeP x K=zeP x' K:=by rw [h]
@[go_sem] theorem zeR {e:TypeId} {sz n:Nat} {xs:List Value} {K:Nat→Prop}:zeP (some (.row e sz n xs)) K=K n:=rfl
@[congr] theorem zeS {t:TypeId} {x x' i i':SV} (h:x=x') (h2:i=i'):zbb P st g t x i L=zbb P st g t x' i' L:=by rw [h,h2]
@[go_sem] theorem zeT {t:TypeId} {r:Nat} {i:SV}:zbb P st g t (.c (.s r)) i L=((g=true→∃ k,Value.isI k i.val)∧onE (zaX P t) (fun e=>hasT P e=true∧zeP (look r st.p) fun n=>(g=true→0≤Value.I i.val∧Value.I i.val < n)∧L (.c (.p r ((Value.I i.val).toNat * szT P e)))) False):=by
 unfold zbb onE zeP
 cases zaX P t with
 | none=>cases arrT P t <;> simp
 | some e =>
  simp only
  cases look r st.p with
  | none=>rfl
  | some b=>cases b <;> rfl
@[go_sem] theorem zeU {t:TypeId} {y:Value} {i:SV}:zbb P st g t (.c (.v y)) i L=((g=true→∃ k,Value.isI k i.val)∧onE (zaX P t) (fun e=>hasT P e=true∧(g=true→Value.isA y∧0≤Value.I i.val∧Value.I i.val < Value.L y∧(Value.A y).isSome=true)∧L (.c (.v (.pointer ((Value.A y).map (·.add ((Value.I i.val).toNat * szT P e)))))))
  (onF (arrT P t) fun n e=>hasT P e=true∧(g=true→Value.isP y∧0≤Value.I i.val∧Value.I i.val < n)∧L (.c (.v (.pointer ((Value.P y).map (·.add ((Value.I i.val).toNat * szT P e)))))))):=by
 unfold zbb onE onF
 cases zaX P t with
 | none=>cases arrT P t <;> rfl
 | some e=>rfl
@[go_sem] theorem zeV {t:TypeId} {r o:Nat} {i:SV}:zbb P st g t (.c (.p r o)) i L=((g=true→∃ k,Value.isI k i.val)∧onE (zaX P t) (fun _=>False)
  (onF (arrT P t) fun n e=>hasT P e=true∧(g=true→0≤Value.I i.val∧Value.I i.val < n)∧L (.c (.p r (o+(Value.I i.val).toNat * szT P e))))):=by
 unfold zbb onE onF
 cases zaX P t with
 | none=>cases arrT P t <;> rfl
 | some e=>simp
@[congr] theorem zeW {t:TypeId} {x x':SV} (h:x=x'):vlen P st g t x L=vlen P st g t x' L:=by rw [h]
@[go_sem] theorem zeX {t:TypeId} {r:Nat}:vlen P st g t (.c (.s r)) L=onE (zaX P t) (fun _=>zeP (look r st.p) fun n=>L (.c (.v (.int .i64 n)))) (vlen P st g t (.c (.s r)) L∧zaX P t=none):=by
 unfold vlen onE zeP
 cases zaX P t with
 | none=>simp
 | some e =>
  simp only
  cases look r st.p with
  | none=>rfl
  | some b=>cases b <;> rfl
@[go_sem] theorem zeY {t:TypeId} {y:Value}:vlen P st g t (.c (.v y)) L=onE (zaX P t) (fun _=>(g=true→Value.isA y)∧L (.c (.v (.int .i64 (Value.L y)))))
  (match arrT P t with
  | some (n,_)=>L (.c (.v (.int .i64 n)))
  | none=>strT P t=true∧(g=true→Value.isS y)∧L (.c (.v (.int .i64 (Value.S y).size)))):=by
 unfold vlen onE
 cases zaX P t <;> rfl
@[go_sem] theorem zeZ {x:Value}:SV.val (.c (.v x))=x:=rfl
@[go_sem] theorem ze0 {x:Value}:SC.val (.v x)=x:=rfl
@[go_sem] theorem ze1 {cs:List SC}:SV.cells (.g cs)=cs:=rfl
@[go_sem] theorem ze2 {r o:Nat}:SV.cells (.c (.p r o))=[.p r o]:=rfl
@[go_sem] theorem ze3 {r:Nat}:SV.cells (.c (.s r))=[.s r]:=rfl
@[go_sem] theorem ze4 {k:IntKind} {n:Int}:SV.cells (.c (.v (.int k n)))=[.v (.int k n)]:=rfl
@[go_sem] theorem ze5 {n:Bool}:SV.cells (.c (.v (.bool n)))=[.v (.bool n)]:=rfl
@[go_sem] theorem ze6 {n:ByteArray}:SV.cells (.c (.v (.string n)))=[.v (.string n)]:=rfl
@[go_sem] theorem ze7 {a:Option Addr} {n c:Nat}:SV.cells (.c (.v (.slice a n c)))=[.v (.slice a n c)]:=rfl
@[go_sem] theorem ze8 {a:Option Addr}:SV.cells (.c (.v (.pointer a)))=[.v (.pointer a)]:=rfl
@[go_sem] theorem ze9 {a:Go.Fn} {x y:Array Value}:SV.cells (.c (.v (.func a x y)))=[.v (.func a x y)]:=rfl
@[go_sem] theorem ev_I {k:IntKind} {n:Int}:Value.I (.int k n)=n:=rfl
@[go_sem] theorem zfa {k k':IntKind} {n:Int}:Value.isI k (.int k' n)=(k'=k):=rfl
@[go_sem] theorem zfb {k':IntKind} {n:Int}:(∃ k,Value.isI k (.int k' n))=True:=eq_true ⟨k',rfl⟩
@[go_sem] theorem ev_B {n:Bool}:Value.B (.bool n)=n:=rfl
@[go_sem] theorem zfc {n:Bool}:Value.isB (.bool n)=True:=rfl
@[go_sem] theorem ev_S {n:ByteArray}:Value.S (.string n)=n:=rfl
@[go_sem] theorem zfd {n:ByteArray}:Value.isS (.string n)=True:=rfl
@[go_sem] theorem ev_P {a:Option Addr}:Value.P (.pointer a)=a:=rfl
@[go_sem] theorem zfe {a:Option Addr}:Value.isP (.pointer a)=(a.isSome=true):=by cases a <;> simp [Value.isP]
@[go_sem] theorem ev_A {a:Option Addr} {n c:Nat}:Value.A (.slice a n c)=a:=rfl
@[go_sem] theorem ev_L {a:Option Addr} {n c:Nat}:Value.L (.slice a n c)=n:=rfl
@[go_sem] theorem ev_C {a:Option Addr} {n c:Nat}:Value.C (.slice a n c)=c:=rfl
@[go_sem] theorem zff {a:Option Addr} {n c:Nat}:Value.isA (.slice a n c)=True:=rfl
@[go_sem] theorem ev_T {x:List Value}:Value.T (.tuple x.toArray)=x:=rfl
@[go_sem] theorem zfg {n:Nat} {x:List Value}:Value.isT n (.tuple x.toArray)=(n < x.length):=by simp [Value.isT]
@[go_sem] theorem zfh {cs:List SC}:isG (.g cs)=True:=rfl
@[go_sem] theorem zfi:zcf (.slice none 0 0)=true:=rfl
@[go_sem] theorem zfj {a:Addr} {n c:Nat}:zcf (.slice (some a) n c)=false:=rfl
@[go_sem] theorem zfk {f:FuncId} {x y:Array Value}:isFn (.func (.func f) x y)=True:=rfl
end
open Go Go.RowKit
section
variable {P:Program} {st:St} {g:Bool} {K:St→Prop} {L:SV→Prop}
@[congr] theorem zfl {x x':SV} (h:x=x'):vnil g x L=vnil g x' L:=by rw [h]
@[go_sem] theorem zfm {r o:Nat}:vnil g (.c (.p r o)) L=L (.c (.p r o)):=rfl
@[go_sem] theorem zfn {y:Value}:vnil g (.c (.v y)) L=((g=true→Value.isP y∨isFn y)∧L (.c (.v y))):=rfl
@[congr] theorem zfo {op:BinOp} {t:TypeId} {x x' y y':SV} {K:Value→Prop} (h:x=x') (h':y=y'):vbin P g op t x y K=vbin P g op t x' y' K:=by rw [h,h']
@[congr] theorem zfp {op:BinOp} {t:TypeId} {x x' y y':SV} {K:Value→Prop} {d d':TypeDesc} (h:x=x') (h':y=y') (h2:d=d'):zaO P g op t x y K d=zaO P g op t x' y' K d':=by rw [h,h',h2]
@[go_sem] theorem zfq {op:BinOp} {t:TypeId} {x y:SV} {K:Value→Prop}:vbin P g op t x y K=zaO P g op t x y K ((P.underlying t).getD .invalid):=rfl
@[go_sem] theorem zfr {d d':TypeDesc}:(some d).getD d'=d:=rfl
@[congr] theorem zfs {op:BinOp} {k:IntKind} {a a' b b':Int} {K:Value→Prop} (h:a=a') (h':b=b'):zaF g op k a b K=zaF g op k a' b' K:=by rw [h,h']
section
variable {t:TypeId} {x y:SV} {K:Value→Prop} {k:IntKind}
@[go_sem] theorem zft:zaO P g .add t x y K (.int k)=((g=true→Value.isI k x.val∧Value.isI k y.val)∧K (.int k (k.wrap (Value.I x.val+Value.I y.val)))):=rfl
@[go_sem] theorem zfu:zaO P g .sub t x y K (.int k)=((g=true→Value.isI k x.val∧Value.isI k y.val)∧K (.int k (k.wrap (Value.I x.val - Value.I y.val)))):=rfl
@[go_sem] theorem zfv:zaO P g .mul t x y K (.int k)=((g=true→Value.isI k x.val∧Value.isI k y.val)∧K (.int k (k.wrap (Value.I x.val * Value.I y.val)))):=rfl
@[go_sem] theorem zfw:zaO P g .quo t x y K (.int k)=((g=true→Value.isI k x.val∧Value.isI k y.val)∧(g=true→Value.I y.val ≠ 0)∧K (.int k (k.wrap ((Value.I x.val).tdiv (Value.I y.val))))):=rfl
@[go_sem] theorem zfx:zaO P g .rem t x y K (.int k)=((g=true→Value.isI k x.val∧Value.isI k y.val)∧(g=true→Value.I y.val ≠ 0)∧K (.int k ((Value.I x.val).tmod (Value.I y.val)))):=rfl
@[go_sem] theorem zfy:zaO P g .and t x y K (.int k)=((g=true→Value.isI k x.val∧Value.isI k y.val)∧K (.int k (zaE .and k (Value.I x.val) (Value.I y.val)))):=rfl
@[go_sem] theorem zfz:zaO P g .or t x y K (.int k)=((g=true→Value.isI k x.val∧Value.isI k y.val)∧K (.int k (zaE .or k (Value.I x.val) (Value.I y.val)))):=rfl
@[go_sem] theorem zfA:zaO P g .xor t x y K (.int k)=((g=true→Value.isI k x.val∧Value.isI k y.val)∧K (.int k (zaE .xor k (Value.I x.val) (Value.I y.val)))):=rfl
@[go_sem] theorem zfB:zaO P g .andNot t x y K (.int k)=((g=true→Value.isI k x.val∧Value.isI k y.val)∧K (.int k (zaE .andNot k (Value.I x.val) (Value.I y.val)))):=rfl
@[go_sem] theorem zfC:zaO P g .shl t x y K (.int k)=((g=true→Value.isI k x.val∧(∃ k',Value.isI k' y.val)∧0≤Value.I y.val)∧K (.int k (k.wrap (Value.I x.val * 2 ^ (min (Value.I y.val).toNat k.bits))))):=rfl
@[go_sem] theorem zfD:zaO P g .shr t x y K (.int k)=((g=true→Value.isI k x.val∧(∃ k',Value.isI k' y.val)∧0≤Value.I y.val)∧K (.int k ((Value.I x.val).fdiv (2 ^ (min (Value.I y.val).toNat k.bits))))):=rfl
@[go_sem] theorem zfE:zaO P g .eql t x y K (.int k)=((g=true→Value.isI k x.val∧Value.isI k y.val)∧K (.bool (Value.I x.val == Value.I y.val))):=rfl
@[go_sem] theorem zfF:zaO P g .neq t x y K (.int k)=((g=true→Value.isI k x.val∧Value.isI k y.val)∧K (.bool (Value.I x.val != Value.I y.val))):=rfl
@[go_sem] theorem zfG:zaO P g .lss t x y K (.int k)=((g=true→Value.isI k x.val∧Value.isI k y.val)∧K (.bool (decide (Value.I x.val < Value.I y.val)))):=rfl
@[go_sem] theorem zfH:zaO P g .leq t x y K (.int k)=((g=true→Value.isI k x.val∧Value.isI k y.val)∧K (.bool (decide (Value.I x.val≤Value.I y.val)))):=rfl
@[go_sem] theorem zfI:zaO P g .gtr t x y K (.int k)=((g=true→Value.isI k x.val∧Value.isI k y.val)∧K (.bool (decide (Value.I y.val < Value.I x.val)))):=rfl
@[go_sem] theorem zfJ:zaO P g .geq t x y K (.int k)=((g=true→Value.isI k x.val∧Value.isI k y.val)∧K (.bool (decide (Value.I y.val≤Value.I x.val)))):=rfl
@[go_sem] theorem zfK:zaO P g .eql t x y K .bool=((g=true→Value.isB x.val∧Value.isB y.val)∧K (.bool (Value.B x.val == Value.B y.val))):=rfl
@[go_sem] theorem zfL:zaO P g .neq t x y K .bool=((g=true→Value.isB x.val∧Value.isB y.val)∧K (.bool (!(Value.B x.val == Value.B y.val)))):=rfl
@[go_sem] theorem zfM:zaO P g .eql t x y K .string=((g=true→Value.isS x.val∧Value.isS y.val)∧K (.bool ((Value.S x.val).toList == (Value.S y.val).toList))):=rfl
@[go_sem] theorem zfN:zaO P g .neq t x y K .string=((g=true→Value.isS x.val∧Value.isS y.val)∧K (.bool (!((Value.S x.val).toList == (Value.S y.val).toList)))):=rfl
@[go_sem] theorem zfO:zaO P g .add t x y K .string=((g=true→Value.isS x.val∧Value.isS y.val)∧(g=true→(Value.S x.val).size+(Value.S y.val).size≤9223372036854775807)∧K (.string (Value.S x.val ++ Value.S y.val))):=rfl
@[go_sem] theorem zfP {fs:List Field}:zaO P g .eql t x y K (.struct fs.toArray)=(P.stoodInHeld t=false∧P.eqGuardType P.depth t=false∧fs.length ≠ 1∧(g=true→zaI P 0 fs (x.cells.map (·.val))∧zaI P 0 fs (y.cells.map (·.val)))∧K (.bool (veqs (x.cells.map (·.val)) (y.cells.map (·.val))))):=rfl
@[go_sem] theorem zfQ {fs:List Field}:zaO P g .neq t x y K (.struct fs.toArray)=(P.stoodInHeld t=false∧P.eqGuardType P.depth t=false∧fs.length ≠ 1∧(g=true→zaI P 0 fs (x.cells.map (·.val))∧zaI P 0 fs (y.cells.map (·.val)))∧K (.bool (!veqs (x.cells.map (·.val)) (y.cells.map (·.val))))):=rfl
end
@[go_sem] theorem zfR:veqs [] []=true:=rfl
@[go_sem] theorem zfS {a b:Value} {as bs:List Value}:veqs (a :: as) (b :: bs)=(veq a b && veqs as bs):=rfl
@[go_sem] theorem zfT {k k':IntKind} {a b:Int}:veq (.int k a) (.int k' b)=(a == b):=rfl
@[go_sem] theorem zfU {a b:Bool}:veq (.bool a) (.bool b)=(a == b):=rfl
@[go_sem] theorem zfV {a b:ByteArray}:veq (.string a) (.string b)=(a.toList == b.toList):=rfl
@[go_sem] theorem zfW {i:Nat}:zaI P i [] []=True:=rfl
@[go_sem] theorem zfX {i:Nat} {n:String} {ty:TypeId} {off:Nat} {em:Bool} {tag pp:String} {bo:Nat} {fs:List Field} {v:Value} {vs:List Value}:zaI P i (⟨n,ty,off,em,tag,pp,bo⟩ :: fs) (v :: vs)=(off=i∧n ≠ "_"∧zaH P ty v∧zaI P (i+1) fs vs):=rfl
@[go_sem] theorem zfY {t:TypeId} {k k':IntKind} {n:Int} (h:P.underlying t=some (.int k')):zaH P t (.int k n)=(k=k'):=by simp [zaH,h,Value.isI]
@[go_sem] theorem zfZ {t:TypeId} {n:Bool} (h:P.underlying t=some .bool):zaH P t (.bool n)=True:=by simp [zaH,h,Value.isB]
@[go_sem] theorem zf0 {t:TypeId} {n:ByteArray} (h:P.underlying t=some .string):zaH P t (.string n)=True:=by simp [zaH,h,Value.isS]
@[congr] theorem zf1 {op:UnOp} {x x':SV} (h:x=x'):vun g op x L=vun g op x' L:=by rw [h]
@[go_sem] theorem zf2 {x:SV}:vun g .not x L=((g=true→Value.isB x.val)∧L (.c (.v (.bool (!Value.B x.val))))):=rfl
@[go_sem] theorem zf3 {x:SV}:vun g .neg x L=((g=true→Value.isI .i64 x.val)∧L (.c (.v (.int .i64 (IntKind.i64.wrap (0 - Value.I x.val)))))):=rfl
def onK (x:Option IntKind) (K:IntKind→Prop):Prop :=
 match x with
 | some k=>K k
 | none=>False
@[congr] theorem zf4 {x x':Option IntKind} {K:IntKind→Prop} (h:x=x'):onK x K=onK x' K:=by rw [h]
@[go_sem] theorem zf5 {k:IntKind} {K:IntKind→Prop}:onK (some k) K=K k:=rfl
@[congr] theorem zf6 {s d:TypeId} {x x':SV} (h:x=x'):zbv P g s d x L=zbv P g s d x' L:=by rw [h]
@[go_sem] theorem zf7 {s d:TypeId} {x:SV}:zbv P g s d x L=onK (intT P d) fun k=>hasT P s=true∧(g=true→∃ k',Value.isI k' x.val)∧L (.c (.v (.int k (k.wrap (Value.I x.val))))):=rfl
@[congr] theorem zf8 {x x':SV} {i:Nat} (h:x=x'):zby g x i L=zby g x' i L:=by rw [h]
@[go_sem] theorem zf9 {x:SV} {i:Nat}:zby g x i L=((g=true→Value.isT i x.val)∧L (.of ((Value.T x.val).getD i undef))):=rfl
@[congr] theorem zga {f:Int→Int→Int} {t:TypeId} {x x':List SV} (h:x=x'):zbo P g f t x L=zbo P g f t x' L:=by rw [h]
@[go_sem] theorem zgb {f:Int→Int→Int} {t:TypeId} {x:SV} {xs:List SV}:zbo P g f t (x :: xs) L=onK (intT P t) fun k=>(g=true→Value.isI k x.val∧allI k xs)∧L (.c (.v (.int k (zbn f (Value.I x.val) xs)))):=by
 unfold zbo onK;cases intT P t <;> rfl
@[go_sem] theorem zgc {f:Int→Int→Int} {a:Int}:zbn f a []=a:=rfl
@[go_sem] theorem zgd {f:Int→Int→Int} {a:Int} {x:SV} {xs:List SV}:zbn f a (x :: xs)=zbn f (f a (Value.I x.val)) xs:=rfl
@[go_sem] theorem zge {k:IntKind}:allI k []=True:=rfl
@[go_sem] theorem zgf {k:IntKind} {x:SV} {xs:List SV}:allI k (x :: xs)=(Value.isI k x.val∧allI k xs):=rfl
@[congr] theorem zgg {t:TypeId} {x x':SV} {lo lo' hi hi':Option SV} (h:x=x') (h1:lo=lo') (h2:hi=hi'):zbA P g t x lo hi L=zbA P g t x' lo' hi' L:=by rw [h,h1,h2]
def zgh (h:Prop) (lo hi:Int) (y:Value) (sz:Nat) (L:SV→Prop):Prop :=
 h∧L (.c (.v (.slice (if Value.C y=lo.toNat then Value.A y else (Value.A y).map (·.add (lo.toNat * sz))) (hi.toNat - lo.toNat) (Value.C y - lo.toNat))))
@[congr] theorem zgi {h h':Prop} {lo lo' hi hi':Int} {y y':Value} {sz sz':Nat} (e0:h=h') (e1:lo=lo') (e2:hi=hi') (e3:y=y') (e4:sz=sz'):zgh h lo hi y sz L=zgh h' lo' hi' y' sz' L:=by rw [e0,e1,e2,e3,e4]
@[go_sem] theorem zgj {h:Prop} {lo hi:Int} {y:Value} {sz:Nat}:zgh h lo hi y sz L=(h∧L (.c (.v (.slice (if Value.C y=lo.toNat then Value.A y else (Value.A y).map (·.add (lo.toNat * sz))) (hi.toNat - lo.toNat) (Value.C y - lo.toNat))))):=rfl
def zgk (h:Prop) (lo hi:Int) (y:Value) (L:SV→Prop):Prop:=h∧L (.c (.v (.string ((Value.S y).extract lo.toNat hi.toNat))))
@[congr] theorem zgl {h h':Prop} {lo lo' hi hi':Int} {y y':Value} (e0:h=h') (e1:lo=lo') (e2:hi=hi') (e3:y=y'):zgk h lo hi y L=zgk h' lo' hi' y' L:=by rw [e0,e1,e2,e3]
@[go_sem] theorem zgm {h:Prop} {lo hi:Int} {y:Value}:zgk h lo hi y L=(h∧L (.c (.v (.string ((Value.S y).extract lo.toNat hi.toNat))))):=rfl
@[go_sem] theorem zgn {t:TypeId} {y:Value}:zbA P g t (.c (.v y)) none none L=onE (zaX P t) (fun e=>hasT P e=true∧zgh (g=true→Value.isA y) 0 (Value.L y) y (szT P e) L) (strT P t=true∧zgk (g=true→Value.isS y) 0 (Value.S y).size y L):=by
 unfold zbA onE zgh zgk
 cases zaX P t <;> simp <;> grind
@[go_sem] theorem zgo {t:TypeId} {y:Value} {u:SV}:zbA P g t (.c (.v y)) none (some u) L=onE (zaX P t) (fun e=>hasT P e=true∧zgh (g=true→Value.isA y∧(∃ k,Value.isI k u.val)∧0≤Value.I u.val∧Value.I u.val≤Value.C y) 0 (Value.I u.val) y (szT P e) L)
  (strT P t=true∧zgk (g=true→Value.isS y∧(∃ k,Value.isI k u.val)∧0≤Value.I u.val∧Value.I u.val≤(Value.S y).size) 0 (Value.I u.val) y L):=by
 unfold zbA onE zgh zgk
 cases zaX P t <;> simp
@[go_sem] theorem zgp {t:TypeId} {y:Value} {l:SV}:zbA P g t (.c (.v y)) (some l) none L=onE (zaX P t) (fun e=>hasT P e=true∧zgh (g=true→Value.isA y∧(∃ k,Value.isI k l.val)∧0≤Value.I l.val∧Value.I l.val≤Value.L y) (Value.I l.val) (Value.L y) y (szT P e) L)
  (strT P t=true∧zgk (g=true→Value.isS y∧(∃ k,Value.isI k l.val)∧0≤Value.I l.val∧Value.I l.val≤(Value.S y).size) (Value.I l.val) (Value.S y).size y L):=by
 unfold zbA onE zgh zgk
 cases zaX P t <;> simp
@[go_sem] theorem zgq {t:TypeId} {y:Value} {l u:SV}:zbA P g t (.c (.v y)) (some l) (some u) L=onE (zaX P t) (fun e=>hasT P e=true∧zgh (g=true→Value.isA y∧(∃ k,Value.isI k l.val)∧(∃ k,Value.isI k u.val)∧0≤Value.I l.val∧Value.I l.val≤Value.I u.val∧Value.I u.val≤Value.C y) (Value.I l.val) (Value.I u.val) y (szT P e) L)
  (strT P t=true∧zgk (g=true→Value.isS y∧(∃ k,Value.isI k l.val)∧(∃ k,Value.isI k u.val)∧0≤Value.I l.val∧Value.I l.val≤Value.I u.val∧Value.I u.val≤(Value.S y).size) (Value.I l.val) (Value.I u.val) y L):=by
 unfold zbA onE zgh zgk
 cases zaX P t <;> simp
@[congr] theorem zgr {p p':List (Nat × PB)} {t:TypeId} {a a' x x':SV} {M:List (Nat × PB)→Prop} (h:p=p') (h1:a=a') (h2:x=x'):zb9 P p t a x M=zb9 P p' t a' x' M:=by rw [h,h1,h2]
@[congr] theorem zgs {p p':List (Nat × PB)} {t:TypeId} {r r' o o':Nat} {b b':Option PB} {x x':SV} {M:List (Nat × PB)→Prop} (h:p=p') (h1:r=r') (h2:o=o') (h3:b=b') (h4:x=x'):zb8 P p t r o b x M=zb8 P p' t r' o' b' x' M:=by rw [h,h1,h2,h3,h4]
@[go_sem] theorem zgt {p:List (Nat × PB)} {t:TypeId} {r o:Nat} {x:SV} {M:List (Nat × PB)→Prop}:zb9 P p t (.c (.p r o)) x M=(hasT P t=true∧zb8 P p t r o (look r p) x M):=rfl
@[go_sem] theorem zgu {p:List (Nat × PB)} {t ty:TypeId} {r o:Nat} {cs:List SC} {x:SV} {M:List (Nat × PB)→Prop}:zb8 P p t r o (some (.box ty cs)) x M=(x.cells.length=szT P t∧o+szT P t≤cs.length∧(x.cells.all (·.okc p))=true∧M (setP r (.box ty (zbG o x.cells cs)) p)):=rfl
@[go_sem] theorem zgv {p:List (Nat × PB)} {t e:TypeId} {r o sz n:Nat} {xs:List Value} {x:SV} {M:List (Nat × PB)→Prop}:zb8 P p t r o (some (.row e sz n xs)) x M=(x.cells.length=szT P t∧o+szT P t≤xs.length∧(x.cells.all fun c=>zb7 c && c.val.oneCell')=true∧M (setP r (.row e sz n (zbG o (x.cells.map (·.val)) xs)) p)):=rfl
@[go_sem] theorem zgw {r:Nat} {b b':PB} {l:List (Nat × PB)}:setP r b ((r,b') :: l)=(r,b) :: l:=by simp [setP]
@[go_sem] theorem zgx {r k:Nat} {b b':PB} {l:List (Nat × PB)} (h:(k == r)=false):setP r b ((k,b') :: l)=(k,b') :: setP r b l:=by
 have:k ≠ r:=by simpa using h
 simp [setP,this]
@[go_sem] theorem zgy {r:Nat}:zb2 r []=[]:=rfl
@[go_sem] theorem zgz {r:Nat} {b':PB} {l:List (Nat × PB)}:zb2 r ((r,b') :: l)=zb2 r l:=by simp [zb2]
@[go_sem] theorem zgA {r k:Nat} {b':PB} {l:List (Nat × PB)} (h:(k == r)=false):zb2 r ((k,b') :: l)=(k,b') :: zb2 r l:=by
 have:k ≠ r:=by simpa using h
 simp [zb2,this]
@[go_sem] theorem zgB {p:List (Nat × PB)} {x:Value}:SC.okc p (.v x)=x.oneCell':=rfl
@[go_sem] theorem zgC {p:List (Nat × PB)} {r o:Nat}:SC.okc p (.p r o)=true:=rfl
def zgD (b:Option PB):Bool :=
 match b with
 | some (.row ..)=>true
 | _=>false
@[go_sem] theorem zgE {p:List (Nat × PB)} {r:Nat}:SC.okc p (.s r)=zgD (look r p):=rfl
@[go_sem] theorem zgF {e:TypeId} {sz n:Nat} {xs:List Value}:zgD (some (.row e sz n xs))=true:=rfl
@[go_sem] theorem zgG {k:IntKind} {n:Int}:(Value.int k n).oneCell'=true:=rfl
@[go_sem] theorem zgH {n:Bool}:(Value.bool n).oneCell'=true:=rfl
@[go_sem] theorem zgI {n:ByteArray}:(Value.string n).oneCell'=true:=rfl
@[go_sem] theorem zgJ {n:Option Addr}:(Value.pointer n).oneCell'=true:=rfl
@[go_sem] theorem zgK {a:Option Addr} {n c:Nat}:(Value.slice a n c).oneCell'=true:=rfl
@[go_sem] theorem zgL {f:Go.Fn} {x y:Array Value}:(Value.func f x y).oneCell'=true:=rfl
@[go_sem] theorem zgM {x:Value}:zb7 (.v x)=true:=rfl
@[go_sem] theorem zgN {r o:Nat}:zb7 (.p r o)=false:=rfl
@[go_sem] theorem zgO {r:Nat}:zb7 (.s r)=false:=rfl
@[go_sem] theorem zgP {x:SC}:SV.plain (.c x)=zb7 x:=rfl
@[go_sem] theorem zgQ {cs:List SC}:SV.plain (.g cs)=cs.all zb7:=rfl
@[go_sem] theorem zgR {x:SC}:SV.pv (.c x)=x.val:=rfl
@[go_sem] theorem zgS {cs:List SC}:SV.pv (.g cs)=.agg (cs.map (·.val)).toArray:=rfl
@[go_sem] theorem zgT {o n:Nat} {cs:List SC}:cutC o n cs=(cs.drop o).take n:=rfl
@[go_sem] theorem zgU {α:Type} {o:Nat} {new cs:List α}:zbG o new cs=cs.take o ++ (new ++ cs.drop (o+new.length)):=rfl
def onZ (z:Option (List Value)) (K:List Value→Prop):Prop :=
 match z with
 | some z=>K z
 | none=>False
@[congr] theorem zgV {z z':Option (List Value)} {K:List Value→Prop} (h:z=z'):onZ z K=onZ z' K:=by rw [h]
@[go_sem] theorem zgW {z:List Value} {K:List Value→Prop}:onZ (some z) K=K z:=rfl
@[go_sem] theorem zgX {t:TypeId} {K:List Value→Prop}:zca P t K=onZ (zbF P t) K:=rfl
@[go_sem] theorem zgY {t:TypeId} {K:TypeId→Prop}:zcc P t K=onE (zaX P t) (fun e=>hasT P e=true∧K e) False:=by
 unfold zcc onE;cases zaX P t <;> rfl
@[go_sem] theorem zgZ {sz i:Nat}:zcb sz i [] []=True:=rfl
@[go_sem] theorem zg0 {sz i j:Nat} {js:List Nat} {x:SV} {xs:List SV}:zcb sz i (j :: js) (x :: xs)=(j=i∧x.cells.length=sz∧x.plain=true∧zcb sz (i+1) js xs):=rfl
@[congr] theorem zg1 {st st':St} {t:TypeId} {s s' x x':SV} {M:TypeId→Nat→Nat→List Value→List (Nat × PB)→Prop} (h:st=st') (h1:s=s') (h2:x=x'):zcg P st t s x M=zcg P st' t s' x' M:=by rw [h,h1,h2]
@[congr] theorem zg2 {st st':St} {t:TypeId} {s s' x x':SV} {M:TypeId→Nat→Nat→List Value→List (Nat × PB)→Prop} (h:st=st') (h1:s=s') (h2:x=x'):zcd P st t s x M=zcd P st' t s' x' M:=by rw [h,h1,h2]
@[congr] theorem zg3 {st st':St} {t:TypeId} {s s':Value} {x x':SV} {M:TypeId→Nat→Nat→List Value→Prop} (h:st=st') (h1:s=s') (h2:x=x'):zce P st t s x M=zce P st' t s' x' M:=by rw [h,h1,h2]
@[congr] theorem zg4 {st st':St} {sz sz':Nat} {x x':SV} {M:Nat→List Value→Prop} (h:st=st') (h1:sz=sz') (h2:x=x'):vsrc st sz x M=vsrc st' sz' x' M:=by rw [h,h1,h2]
@[congr] theorem zg5 {st st':St} {e:TypeId} {sz sz':Nat} {x x':SV} {M:Nat→List Value→List (Nat × PB)→Prop} (h:st=st') (h1:sz=sz') (h2:x=x'):vdst st e sz x M=vdst st' e sz' x' M:=by rw [h,h1,h2]
@[go_sem] theorem zg6 {t:TypeId} {r:Nat} {x:SV} {M:TypeId→Nat→Nat→List Value→List (Nat × PB)→Prop}:zcg P st t (.c (.s r)) x M=zcd P st t (.c (.s r)) x M:=rfl
@[go_sem] theorem zg7 {t:TypeId} {x:SV} {M:TypeId→Nat→Nat→List Value→List (Nat × PB)→Prop}:zcg P st t (.c (.v (.slice none 0 0))) x M=zcd P st t (.c (.v (.slice none 0 0))) x M:=by simp [zcg,zcf]
@[go_sem] theorem zg8 {t:TypeId} {x:SV} {a:Addr} {n c:Nat} {M:TypeId→Nat→Nat→List Value→List (Nat × PB)→Prop}:zcg P st t (.c (.v (.slice (some a) n c))) x M=zce P st t (.slice (some a) n c) x fun e sz n xs=>M e sz n xs st.p:=by simp [zcg,zcf]
@[go_sem] theorem zg9 {t:TypeId} {s x:SV} {M:TypeId→Nat→Nat→List Value→List (Nat × PB)→Prop}:zcd P st t s x M=zcc P t fun e=>zca P e fun z=>z.length=szT P e∧0 < szT P e ∧
  vsrc st (szT P e) x fun m ys=>vdst st e (szT P e) s fun n xs p=>(∀ u ∈ ys,u.oneCell'=true)∧n+m≤maxLen∧(n+m) * P.bytesOf e≤140737488355328∧M e (szT P e) (n+m) (xs ++ ys) p:=rfl
@[go_sem] theorem zha {t:TypeId} {y:Value} {x:SV} {M:TypeId→Nat→Nat→List Value→Prop}:zce P st t y x M=zcc P t fun e=>zca P e fun z=>z.length=szT P e∧0 < szT P e∧Value.isA y∧Value.C y=Value.L y∧(Value.A y).isSome=true∧(st.h.ldL y (szT P e)).isSome=true ∧
  vsrc st (szT P e) x fun m ys=>0 < m∧(∀ u ∈ ys,u.oneCell'=true)∧Value.L y+m≤maxLen∧(Value.L y+m) * P.bytesOf e≤140737488355328∧M e (szT P e) (Value.L y+m) ((st.h.ldL y (szT P e)).getD [] ++ ys):=rfl
@[go_sem] theorem zhb {sz:Nat} {y:Value} {M:Nat→List Value→Prop}:vsrc st sz (.c (.v y)) M=(Value.isA y∧(st.h.ldL y sz).isSome=true∧M (Value.L y) ((st.h.ldL y sz).getD [])):=rfl
def onR (b:Option PB) (K:TypeId→Nat→Nat→List Value→Prop):Prop :=
 match b with
 | some (.row e sz n xs)=>K e sz n xs
 | _=>False
@[congr] theorem zhc {x x':Option PB} {K:TypeId→Nat→Nat→List Value→Prop} (h:x=x'):onR x K=onR x' K:=by rw [h]
@[go_sem] theorem zhd {e:TypeId} {sz n:Nat} {xs:List Value} {K:TypeId→Nat→Nat→List Value→Prop}:onR (some (.row e sz n xs)) K=K e sz n xs:=rfl
@[go_sem] theorem zhe {sz r:Nat} {M:Nat→List Value→Prop}:vsrc st sz (.c (.s r)) M=onR (look r st.p) fun _ sz' m ys=>sz'=sz∧M m ys:=by
 unfold vsrc onR
 simp only
 cases look r st.p with
 | none=>rfl
 | some b=>cases b <;> rfl
@[go_sem] theorem zhf {e:TypeId} {sz r:Nat} {M:Nat→List Value→List (Nat × PB)→Prop}:vdst st e sz (.c (.s r)) M=onR (look r st.p) fun e' sz' n xs=>e'=e∧sz'=sz∧M n xs (zb2 r st.p):=by
 unfold vdst onR
 simp only
 cases look r st.p with
 | none=>rfl
 | some b=>cases b <;> rfl
@[go_sem] theorem zhg {e:TypeId} {sz:Nat} {M:Nat→List Value→List (Nat × PB)→Prop}:vdst st e sz (.c (.v (.slice none 0 0))) M=M 0 [] st.p:=rfl
@[go_sem] theorem zhh {h:Hp} {q:Option Addr} {n:Nat}:h.ldD q n=(h.lds q n).getD []:=rfl
@[go_sem] theorem zhi {h:Hp} {a:Option Addr} {c sz:Nat}:h.ldL (.slice a 0 c) sz=some []:=by simp [Hp.ldL,Value.L]
theorem zhj {h:Hp} {b:Nat} {cs:List Value} {e:TypeId} {n:Nat} (hn:n=cs.length):(h.ins b (.cells cs.toArray e (0,0))).cellsAt ⟨b,0,none⟩ 0 n=some cs:=by
 subst hn
 refine zad rfl fun j v hj=>?_
 rw [za4]
 simp [Hp.cell,Hp.ins,hj]
@[go_sem] theorem zhk {h:Hp} {b:Nat} {cs:List Value} {e:TypeId} {n:Nat} (hn:(n == cs.length)=true):(h.ins b (.cells cs.toArray e (0,0))).lds (some ⟨b,0,none⟩) n=some cs:=by
 exact zhj (by simpa using hn)
@[go_sem] theorem zhl {h:Hp} {b:Nat} {cs:List Value} {e:TypeId} {n c sz:Nat} (hn:(n * sz == cs.length)=true):(h.ins b (.cells cs.toArray e (0,0))).ldL (.slice (some ⟨b,0,none⟩) n c) sz=some cs:=by
 have hn:n * sz=cs.length:=by simpa using hn
 unfold Hp.ldL
 split
 ·rename_i h0
  have:n=0:=h0
  subst this
  have:cs=[]:=List.eq_nil_of_length_eq_zero (by omega)
  rw [this]
 ·exact zhj hn
@[congr] theorem zhm {st st':St} {t:TypeId} {l c:Operand} {M:TypeId→Nat→Nat→List Value→Prop} (h:st=st'):zci P st t l c M=zci P st' t l c M:=by rw [h]
@[go_sem] theorem zhn {t:TypeId} {l c:Operand} {M:TypeId→Nat→Nat→List Value→Prop}:zci P st t l c M=zcc P t fun e=>zca P e fun z=>z.length=szT P e∧getO st true l fun vl=>getO st true c fun vc =>
  (∃ k,Value.isI k vl.val)∧(∃ k,Value.isI k vc.val)∧0≤Value.I vc.val∧Value.I vc.val≤maxLen∧P.bytesOf e * (Value.I vc.val).toNat≤140737488355328 ∧
  iteF (zch l) (M e (szT P e) 0 []) (Value.I vl.val=Value.I vc.val∧M e (szT P e) (Value.I vc.val).toNat (madeCells z.toArray ((Value.I vc.val).toNat * szT P e)).toList):=rfl
@[go_sem] theorem zho {k:IntKind}:zch (.const (.int k 0))=true:=rfl
@[go_sem] theorem zhp {t:Tmp}:zch (.tmp t)=false:=rfl
@[congr] theorem zhq {t:TypeId} {ps ps':List (Nat × SV)} (h:ps=ps'):zbI P t ps L=zbI P t ps' L:=by rw [h]
@[go_sem] theorem zhr {t:TypeId} {ps:List (Nat × SV)}:zbI P t ps L=(zbE P t=true∧hasT P t=true∧onZ (zbF P t) fun z=>zbH P t ps (z.map .v) fun cs=>L (.g cs)):=by
 unfold zbI onZ;cases zbF P t <;> rfl
def onNN (x:Option (Nat × Nat)) (K:Nat→Nat→Prop):Prop :=
 match x with
 | some (a,b)=>K a b
 | none=>False
@[congr] theorem zhs {x x':Option (Nat × Nat)} {K:Nat→Nat→Prop} (h:x=x'):onNN x K=onNN x' K:=by rw [h]
@[go_sem] theorem zht {a b:Nat} {K:Nat→Nat→Prop}:onNN (some (a,b)) K=K a b:=rfl
@[congr] theorem zhu {t:TypeId} {ps ps':List (Nat × SV)} {cs cs':List SC} {M:List SC→Prop} (h:ps=ps') (h1:cs=cs'):zbH P t ps cs M=zbH P t ps' cs' M:=by rw [h,h1]
@[go_sem] theorem zhv {t:TypeId} {cs:List SC} {M:List SC→Prop}:zbH P t [] cs M=M cs:=rfl
def notS:SV→Bool
 | .c (.s _)=>false
 | _=>true
@[go_sem] theorem zhw {cs:List SC}:notS (.g cs)=true:=rfl
@[go_sem] theorem zhx {y:Value}:notS (.c (.v y))=true:=rfl
@[go_sem] theorem zhy {r o:Nat}:notS (.c (.p r o))=true:=rfl
theorem zhz {x:SV}:(∀ r,x ≠ .c (.s r))=(notS x=true):=by
 apply propext
 constructor
 ·intro h
  unfold notS
  split
  ·rename_i r;exact (h r rfl).elim
  ·rfl
 ·rintro h r rfl
  cases h
@[go_sem] theorem zhA {t:TypeId} {i:Nat} {x:SV} {l:List (Nat × SV)} {cs:List SC} {M:List SC→Prop}:zbH P t ((i,x) :: l) cs M=onNN (zbD P t i) fun off size=>x.cells.length=size∧off+size≤cs.length∧notS x=true∧zbH P t l (zbG off x.cells cs) M:=by
 rw [← zhz]
 conv=>lhs;unfold zbH
 unfold onNN
 cases zbD P t i <;> rfl
@[congr] theorem zhB {st st':St} {vf vf':SV} {vs vs':List SV} {M:Value→Hp→Prop} (h:st=st') (h1:vf=vf') (h2:vs=vs'):zcj P st g vf vs M=zcj P st' g vf' vs' M:=by rw [h,h1,h2]
@[congr] theorem zhC {st:St} {f:FuncId} {xs xs':List Value} {M:Value→Hp→Prop} (h1:xs=xs'):vfn P st g f xs M=vfn P st g f xs' M:=by rw [h1]
@[go_sem] theorem zhD {f:FuncId} {fs cs:List Value} {vs:List SV} {M:Value→Hp→Prop}:zcj P st g (.c (.v (.func (.func f) fs.toArray cs.toArray))) vs M=((vs.all (·.plain))=true∧vfn P st g f (fs ++ (vs.map (·.pv) ++ cs)) M):=rfl
theorem zhE {f:FuncId} {xs:List Value} {M:Value→Hp→Prop} {R:Value→Hp→Prop} (h:Ct P f xs st.h R) (hk:∀ v h',st.h.le h'→R v h'→M v h'):vfn P st true f xs M:=by
 unfold vfn
 exact ⟨R,fun _=>h,.inl ⟨rfl,hk⟩⟩
theorem zhF {f:FuncId} {xs:List Value} {M:Value→Hp→Prop} {V:Value} (h:g=true→Ct P f xs st.h fun v h'=>v=V∧h'=st.h) (hk:M V st.h):vfn P st g f xs M:=by
 unfold vfn
 exact ⟨_,h,.inr ⟨V,fun _ _ x=>x,hk⟩⟩
@[congr] theorem zhG {st st':St} {rs:List ResultVar} {M:List Value→Prop} (h:st=st'):zdg P st rs M=zdg P st' rs M:=by rw [h]
@[congr] theorem zhH {st st':St} {r:ResultVar} {M:Value→Prop} (h:st=st'):zdf P st r M=zdf P st' r M:=by rw [h]
@[go_sem] theorem zhI {M:List Value→Prop}:zdg P st [] M=M []:=rfl
@[go_sem] theorem zhJ {r:ResultVar} {rs:List ResultVar} {M:List Value→Prop}:zdg P st (r :: rs) M=zdf P st r fun v=>zdg P st rs fun vs=>M (v :: vs):=rfl
@[go_sem] theorem zhK {t:Tmp} {M:Value→Prop}:zdf P st (.tmp t) M=onL (look t st.e) true fun sv=>sv.plain=true∧M sv.pv:=by
 unfold zdf onL onD
 simp only
 cases look t st.e with
 | none=>rfl
 | some x=>obtain ⟨c,sv⟩:=x;simp
@[go_sem] theorem zhL {t:Tmp} {ty:TypeId} {M:Value→Prop}:zdf P st (.cell t ty) M=onL (look t st.e) true fun sv=>za2 P st true ty sv fun v=>v.plain=true∧M v.pv:=by
 unfold zdf onL
 simp only
 cases look t st.e with
 | none=>rfl
 | some x=>obtain ⟨c,sv⟩:=x;simp
@[go_sem] theorem zhM {v:Value}:zdh [v]=v:=rfl
@[go_sem] theorem zhN:zdh []=.tuple #[]:=rfl
@[go_sem] theorem zhO {v u:Value} {l:List Value}:zdh (v :: u :: l)=.tuple (v :: u :: l).toArray:=rfl
@[go_sem] theorem zhP {i:Nat}:zdk i []=[]:=rfl
@[go_sem] theorem zhQ {i:Nat} {v:Value} {vs:List Value}:zdk i (v :: vs)=(i,true,.of v) :: zdk (i+1) vs:=rfl
@[go_sem] theorem zhR {e e':Env} {p p':List (Nat × PB)} {h h':Hp} {n n':Nat}:St.le ⟨e,p,h,n⟩ ⟨e',p',h',n'⟩=(leE e e'∧leP p p'∧h'=h∧(zam n' e' && pbLt n' p')=true):=rfl
@[go_sem] theorem zhS {e:Env}:leE e []=True:=rfl
@[go_sem] theorem zhT {e l:Env} {t:Nat} {y:Bool × SV}:leE e ((t,y) :: l)=(look t e=some y∧leE e l):=rfl
@[go_sem] theorem zhU {p:List (Nat × PB)}:leP p []=True:=rfl
@[go_sem] theorem zhV {p l:List (Nat × PB)} {r:Nat} {b:PB}:leP p ((r,b) :: l)=(look r p=some b∧leP p l):=rfl
@[go_sem] theorem zhW {n:Nat}:zam n []=true:=rfl
@[go_sem] theorem zhX {n t:Nat} {c:Bool} {sv:SV} {l:Env}:zam n ((t,c,sv) :: l)=(sv.lt n && zam n l):=rfl
@[go_sem] theorem zhY {n:Nat}:pbLt n []=true:=rfl
@[go_sem] theorem zhZ {n r:Nat} {b:PB} {l:List (Nat × PB)}:pbLt n ((r,b) :: l)=(decide (r < n) && b.lt n && pbLt n l):=rfl
@[go_sem] theorem zh0 {n:Nat} {x:SC}:SV.lt n (.c x)=x.lt n:=rfl
@[go_sem] theorem zh1 {n:Nat} {cs:List SC}:SV.lt n (.g cs)=cs.all (·.lt n):=rfl
@[go_sem] theorem zh2 {n:Nat} {x:Value}:SC.lt n (.v x)=true:=rfl
@[go_sem] theorem zh3 {n r o:Nat}:SC.lt n (.p r o)=decide (r < n):=rfl
@[go_sem] theorem zh4 {n r:Nat}:SC.lt n (.s r)=decide (r < n):=rfl
@[go_sem] theorem zh5 {n:Nat} {ty:TypeId} {cs:List SC}:PB.lt n (.box ty cs)=cs.all (·.lt n):=rfl
@[go_sem] theorem zh6 {n:Nat} {e:TypeId} {sz m:Nat} {xs:List Value}:PB.lt n (.row e sz m xs)=true:=rfl
end
section
variable {n:St→Prop} {Q:Exit→St→Prop} {st:St} {i id:Nat}
theorem zh7:zc1 n Q .normal st=n st:=rfl
theorem zh8:zc1 n Q (.exit i) st=Q (.exit i) st:=rfl
theorem zh9:zc1 n Q .ret st=Q .ret st:=rfl
theorem zia:zc2 id Q .normal st=Q .normal st:=rfl
theorem zib:zc2 id Q .ret st=Q .ret st:=rfl
theorem zic:zc2 i Q (.exit i) st=Q .normal st:=by simp [zc2]
theorem zid (h:(i == id)=false):zc2 id Q (.exit i) st=Q (.exit i) st:=by
 have:i ≠ id:=by simpa using h
 simp [zc2,this]
attribute [go_sem] zh7 zh8 zh9 zia zib zic zid
end
theorem zie {x:Cx} {st:St} {Q:Exit→St→Prop} {id:Nat} {ops:List Oper} {d:Code} (hd:zcZ x.N ops=true) (h:vops x.P ops ops st fun st'=>T x st' d Q):T x st (.seq (.region id ops.toArray false) d) Q :=
 zc3 (zc4 hd h)
@[congr] theorem zif {x:Cx} {st st':St} {c:Code} {Q:Exit→St→Prop} (h:st=st'):T x st c Q=T x st' c Q:=by rw [h]
theorem zig {b:Bool}:(b == true)=b:=by cases b <;> rfl
theorem zih {b:Bool}:(b == false)=!b:=by cases b <;> rfl
theorem zii {b:Bool}:((!b)=true)=(b=false):=by cases b <;> simp
theorem zij {b c:Bool}:(bif b then c else false)=(b && c):=by cases b <;> rfl
theorem zik {b c:Bool}:(bif b then true else c)=(b || c):=by cases b <;> rfl
theorem zil {p q:Prop}:(p→q→p)=True:=eq_true fun h _=>h
theorem zim {p:Prop}:(p→p)=True:=by simp
theorem zin {a:IntKind}:(∃ k,a=k)=True:=eq_true ⟨a,rfl⟩
attribute [go_sem] zin
attribute [go_sem] zig zih zii zij zik zim zil
attribute [go_sem] eq_self true_and and_true true_implies implies_true if_true if_false Bool.and_true Bool.true_and List.length_cons List.length_nil List.all_cons List.all_nil
 List.map_cons List.map_nil List.flatMap_cons List.flatMap_nil List.append_nil List.nil_append List.cons_append List.drop_zero List.drop_succ_cons List.take_zero List.take_succ_cons List.drop_nil List.take_nil
 List.getD_cons_zero List.getD_cons_succ Option.map_some Option.map_none Option.isSome_some Option.isSome_none Option.getD_some Option.getD_none List.zip_cons_cons List.zip_nil_right
 jJ and_imp ne_eq not_true_eq_false not_false_eq_true List.forall_mem_cons List.not_mem_nil false_implies and_self decide_true
open Go Go.RowKit
structure Sl (α:Type) where
 a:Option Addr
 cap:Nat
 l:List α
class Enc (α:Type) where
 size:Nat
 enc:α→List Value
 len:∀ x,(enc x).length=size
 one:∀ x,∀ u ∈ enc x,u.oneCell'=true
 ok:Hp→α→Prop
 mono:∀ {h h':Hp} {x:α},h.le h'→ok h x→ok h' x
def Sl.val {α:Type} (s:Sl α):Value:=.slice s.a s.l.length s.cap
def Sl.Ok {α:Type} [Enc α] (h:Hp) (s:Sl α):Prop :=
 s.l.length≤s.cap∧(s.l ≠ []→s.a.isSome=true)∧(∀ i x,s.l[i]?=some x→h.lds (s.a.map (·.add (i * Enc.size α))) (Enc.size α)=some (Enc.enc x))∧(∀ x ∈ s.l,Enc.ok h x)∧s.cap≤maxLen
theorem Sl.Ok.mono {α:Type} [Enc α] {h h':Hp} {s:Sl α} (hs:h.le h') (H:s.Ok h):s.Ok h' :=
 ⟨H.1,H.2.1,fun i x hx=>zaf hs (H.2.2.1 i x hx),fun x hx=>Enc.mono hs (H.2.2.2.1 x hx),H.2.2.2.2⟩
instance {α:Type} [Enc α]:Enc (Sl α) where
 size:=1
 enc s:=[s.val]
 len _:=rfl
 one s u hu:=by simp only [List.mem_singleton] at hu;subst hu;rfl
 ok h s:=s.Ok h
 mono hs H:=H.mono hs
def I64 (n:Int):Prop:=-9223372036854775808≤n∧n≤9223372036854775807
instance:Enc Int where
 size:=1
 enc n:=[.int .i64 n]
 len _:=rfl
 one n u hu:=by simp only [List.mem_singleton] at hu;subst hu;rfl
 ok _ n:=I64 n
 mono _ H:=H
section
variable {α:Type} [Enc α] {h:Hp} {s:Sl α}
theorem Sl.Ok.at (H:s.Ok h) {i:Nat} (hi:i < s.l.length):h.lds (s.a.map (·.add (i * Enc.size α))) (Enc.size α)=some (Enc.enc s.l[i]):=H.2.2.1 i _ (List.getElem?_eq_getElem hi)
theorem Sl.Ok.some (H:s.Ok h) {i:Nat} (hi:i < s.l.length):s.a.isSome=true:=H.2.1 (by intro e;rw [e] at hi;simp at hi)
theorem Sl.Ok.el (H:s.Ok h) {i:Nat} (hi:i < s.l.length):Enc.ok h s.l[i]:=H.2.2.2.1 _ (List.getElem_mem hi)
theorem Sl.Ok.max (H:s.Ok h):s.l.length≤9223372036854775807:=Nat.le_trans H.1 (by have:=H.2.2.2.2;simpa [maxLen] using this)
theorem zio {α:Type} {f:α→List Value} {k:Nat} (hk:∀ x,(f x).length=k) (hp:0 < k):∀ (l:List α) (j:Nat),(l.flatMap f)[j]?=(l[j / k]?).bind fun x=>(f x)[j % k]?
 | [],j=>by simp
 | x :: l,j=>by
  rw [List.flatMap_cons,List.getElem?_append,hk x]
  by_cases hj:j < k
  ·rw [if_pos hj,Nat.div_eq_of_lt hj,Nat.mod_eq_of_lt hj];rfl
  ·rw [if_neg hj,zio hk hp l (j - k)]
   have e1:j / k=(j - k) / k+1:=by rw [← Nat.add_sub_cancel' (Nat.le_of_not_lt hj),Nat.add_sub_cancel_left,Nat.add_div_left _ hp]
   have e2:j % k=(j - k) % k:=by
    conv=>lhs;rw [← Nat.add_sub_cancel' (Nat.le_of_not_lt hj)]
    rw [Nat.add_mod_left]
   rw [e1,e2]
   rfl
theorem ziq {α:Type} {f:α→List Value} {k:Nat} (hk:∀ x,(f x).length=k) (l:List α):(l.flatMap f).length=l.length * k:=by
 induction l with
 | nil=>simp
 | cons x l ih=>rw [List.flatMap_cons,List.length_append,hk,ih,List.length_cons,Nat.add_mul,Nat.one_mul,Nat.add_comm]
theorem zir (a:Addr) (i j:Nat):(a.add i).add j=a.add (i+j):=by
 unfold Addr.add
 by_cases hi:i=0 <;> by_cases hj:j=0 <;> simp [hi,hj,Nat.add_assoc]
theorem Sl.Ok.all (H:s.Ok h) (hp:0 < Enc.size α):h.ldL s.val (Enc.size α)=Option.some (s.l.flatMap Enc.enc):=by
 unfold Hp.ldL
 show (if s.l.length=0 then _ else h.lds s.a (s.l.length * Enc.size α))=_
 split
 ·rename_i h0
  rw [List.length_eq_zero_iff] at h0
  rw [h0];rfl
 ·rename_i h0
  have hne:s.l ≠ []:=by intro e;rw [e] at h0;simp at h0
  obtain ⟨ad,had⟩:=Option.isSome_iff_exists.1 (H.2.1 hne)
  rw [had]
  refine zad (ziq Enc.len s.l) fun j v hj=>?_
  rw [zio Enc.len hp] at hj
  obtain ⟨x,hx,hv⟩:=Option.bind_eq_some_iff.1 hj
  have h1:=H.2.2.1 _ x hx
  rw [had] at h1
  have h2:=(zac (show h.cellsAt (ad.add (j / Enc.size α * Enc.size α)) 0 _=Option.some (Enc.enc x) from h1)).2 _ v hv
  rw [zir,Nat.zero_add] at h2
  rwa [Nat.zero_add,← Nat.div_add_mod' j (Enc.size α)]
end
theorem zis {α:Type} {s:Sl α}:SV.of s.val=.c (.v s.val):=rfl
theorem zit {α:Type} {s:Sl α}:Value.A s.val=s.a:=rfl
theorem ziu {α:Type} {s:Sl α}:Value.L s.val=s.l.length:=rfl
theorem ziv {α:Type} {s:Sl α}:Value.C s.val=s.cap:=rfl
theorem ziw {α:Type} {s:Sl α}:Value.isA s.val=True:=rfl
theorem zix {α:Type} {s:Sl α}:SV.cells (.c (.v s.val))=[.v s.val]:=rfl
theorem ziy {α:Type} {s:Sl α}:s.val.oneCell'=true:=rfl
attribute [go_sem] zis zit ziu ziv ziw zix ziy
theorem ziz {n:Int}:Enc.enc n=[.int .i64 n]:=rfl
theorem ziA {α:Type} [Enc α] {s:Sl α}:Enc.enc s=[s.val]:=rfl
attribute [go_sem] ziz ziA jW Option.isSome_map
structure Pass where
 ship:Int
 seg:Int
 toward:Bool
 start:Int
 fin:Int
def Pass.enc (p:Pass):List Value:=[.int .i64 p.ship,.int .i64 p.seg,.bool p.toward,.int .i64 p.start,.int .i64 p.fin]
instance:Enc Pass where
 size:=5
 enc p:=p.enc
 len _:=rfl
 one p u hu:=by simp only [Pass.enc,List.mem_cons,List.not_mem_nil,or_false] at hu;rcases hu with rfl|rfl|rfl|rfl|rfl <;> rfl
 ok _ p:=I64 p.ship∧I64 p.seg∧I64 p.start∧I64 p.fin
 mono _ H:=H
structure Opt where
 start:Int
 arr:Int
 cost:Int
 pas:Sl Pass
def Opt.enc (p:Opt):List Value:=[.int .i64 p.start,.int .i64 p.arr,.int .i64 p.cost,p.pas.val]
instance:Enc Opt where
 size:=4
 enc p:=p.enc
 len _:=rfl
 one p u hu:=by simp only [Opt.enc,List.mem_cons,List.not_mem_nil,or_false] at hu;rcases hu with rfl|rfl|rfl|rfl <;> rfl
 ok h p:=I64 p.start∧I64 p.arr∧I64 p.cost∧p.pas.Ok h
 mono hs H:=⟨H.1,H.2.1,H.2.2.1,H.2.2.2.mono hs⟩
theorem ziB {p:Pass}:Enc.enc p=[.int .i64 p.ship,.int .i64 p.seg,.bool p.toward,.int .i64 p.start,.int .i64 p.fin]:=rfl
theorem ziC {p:Opt}:Enc.enc p=[.int .i64 p.start,.int .i64 p.arr,.int .i64 p.cost,p.pas.val]:=rfl
attribute [go_sem] ziB ziC
open Go Go.RowKit
def isQ:Op→Bool
 | .move _|.assign _|.pick ..|.load ..|.nilCheck _|.binOp ..|.unOp ..|.convert ..|.fieldAddr ..|.field ..|.indexAddr ..|.index ..|.extract ..=>true
 | .call c=>match c.callee with
  | .builtin .len=>true
  | _=>false
 | _=>false
section
variable {P:Program} {W0:Base} {h0:Hp} {N:Nat} {st:St} {g:Bool}
theorem ziD {o:Oper} {op:Op} {K:St→Prop} (hq:isQ op=true) (h:vopG P st o g op K):vq P st g op fun sv=>K (st.put o.dst g sv):=by
 cases op <;> simp only [isQ] at hq <;> first|exact h|cases hq|skip
 case call c =>
  obtain ⟨callee,args,ats⟩:=c
  simp only at hq
  split at hq
  ·subst_vars
   exact h
  ·cases hq
abbrev Tk:=Oper × Value × Act
def SD (P:Program) (ops:Array Oper) (D:List Tk) (W:World):Prop :=
 ∀ t ∈ D,Region.wanted t.1 (yielded ops t.2.2.tmps)=true→(execOp t.2.2.eval t.1).run P W=.ok (.value t.2.1) W
def FrD (ops:Array Oper) (D:List Tk) (a:Act):Prop :=
 ∀ t ∈ D,execOp a.eval t.1=execOp t.2.2.eval t.1∧Region.wanted t.1 (yielded ops a.tmps)=Region.wanted t.1 (yielded ops t.2.2.tmps)∧∀ d,t.1.dst=some d→a.tmps[d]?=some t.2.1
def ziE (o:Oper):Bool:=match o.op with|.select ..=>false|_=>true
theorem ziF {o:Oper} (h:ziE o=true):∀ cs b,o.op ≠ .select cs b:=by
 intro cs b e;simp [ziE,e] at h
theorem ziG {a:Act} {dst:Option Tmp} {v:Value} {d:Tmp} (h:dst ≠ some d):(a.put dst v).tmps[d]?=a.tmps[d]?:=by
 cases dst with
 | none=>rfl
 | some e =>
  have:e ≠ d:=fun x=>h (by rw [x])
  simp [Act.put,Array.getElem?_setIfInBounds_ne this]
def ziH (ops:Array Oper) (k o:Oper):Bool:=match o.dst with
 | some d=>!(k.looksAt ops).contains d && k.dst != some d
 | none=>true
theorem ziI {ops:Array Oper} {k o:Oper} (h:ziH ops k o=true):(∀ d,k.dst=some d→o.dst ≠ some d)∧(∀ d,o.dst=some d→d ∉ k.looksAt ops):=by
 unfold ziH at h
 refine ⟨fun d hd e=>?_,fun d hd=>?_⟩
 ·simp [e,hd] at h
 ·simp [hd] at h;exact h.1
theorem FrD.put {ops:Array Oper} {D:List Tk} {a:Act} {o:Oper} {u:Value} (h:FrD ops D a) (hs:∀ t ∈ D,ziE t.1=true∧ziH ops t.1 o=true):FrD ops D (a.put o.dst u):=by
 intro t ht
 obtain ⟨h1,h2,h3⟩:=h t ht
 obtain ⟨s1,s2⟩:=hs t ht
 obtain ⟨a2,a3⟩:=ziI s2
 refine ⟨by rw [execOp_put t.1 (ziF s1) a o.dst u a3,h1],by rw [wanted_put t.1 a o.dst u a3,h2],fun d hd=>?_⟩
 rw [ziG (fun e=>a2 d hd e)]
 exact h3 d hd
theorem FrD.defers {ops:Array Oper} {D:List Tk} {a:Act} {ds:List Deferred} (h:FrD ops D a):FrD ops D { a with defers:=ds }:=h
def dstE (o:Oper) (e e':Env):Prop :=
 match o.dst with
 | some d=>look d e'=look d e
 | none=>False
def vre (P:Program) (ops:List Oper) (st:St):List Oper→Prop
 | []=>True
 | o :: l=>isQ o.op=true∧(vop P ops st o fun st'=>dstE o st.e st'.e)∧vre P ops st l
theorem ziJ {ops:List Oper} {D:List Tk} {a:Act} {W:World} (hC:Conc W0 h0 N st a W) (hF:FrD ops.toArray D a) (h:vre P ops st (D.map (·.1))):SD P ops.toArray D W:=by
 induction D with
 | nil=>intro t ht;cases ht
 | cons t D ih =>
  obtain ⟨hq,h1,h2⟩:=h
  intro t' ht'
  rcases List.mem_cons.1 ht' with rfl|ht'
  ·intro hw
   obtain ⟨e1,e2,e3⟩:=hF t' (List.mem_cons_self ..)
   obtain ⟨ρ,hf,hW,hwf⟩:=hC
   obtain ⟨g,h1,hg⟩:=zcn (N:=N) (o:=t'.1) rfl h1
   replace hg:=hg ρ a hf
   obtain ⟨sv,k1,k2,k3⟩:=zbS (P:=P) (W0:=W0) (h0:=h0) (N:=N) hwf (ziD hq h1)
   have hg1:g=true:=by rw [← hg,e2];exact hw
   subst hg1
   have hr:=k3 rfl ρ a W hf hW
   rw [e1] at hr
   unfold dstE at k1
   split at k1
   ·rename_i d hd
    have hl:look d st.e=some (true,sv):=by
     rw [← k1]
     simp [St.put,zb5,hd,look]
    have:=hf.2.2 d true sv hl
    rw [e3 d hd] at this
    simp only [if_true,Option.some.injEq] at this
    rw [hr,this]
   ·exact k1.elim
  ·exact ih (fun t ht=>hF t (List.mem_cons_of_mem _ ht)) h2 t' ht'
theorem ziK {o:Oper} {K:Act→World→Prop} {Q:Exit→Act→World→Prop} {a:Act} {W:World} (h:o.wp P a W K Q):o.wp P a W (fun a' W'=>(∃ u ds,a'=Act.put { a with defers:=ds } o.dst u)∧K a' W') Q:=by
 unfold Oper.wp at *
 generalize (execOp a.eval o).run P W=r at *
 cases r with
 | ok n w' =>
  cases n <;> simp only [Oper.upon] at h ⊢
  case value u=>exact ⟨⟨u,a.defers,rfl⟩,h⟩
  case skip=>exact ⟨⟨_,a.defers,rfl⟩,h⟩
  case defer d=>exact ⟨⟨_,d :: a.defers,rfl⟩,h⟩
  case enter f args =>
   refine Calls.mono h fun e w'' he=>?_
   cases e with
   | returned u=>exact ⟨⟨u,a.defers,rfl⟩,he⟩
   | panicked c=>exact he
   | outgrown=>exact he
  case row row args=>exact Rows.mono h fun u w'' he=>⟨⟨u,a.defers,rfl⟩,he⟩
 | halt x w'=>cases x <;> simp only [Oper.upon] at h ⊢ <;> exact h
def QN (x:Cx) (K:St→Prop):Exit→Act→World→Prop:=fun e a W=>e=.normal∧∃ st',K st'∧Conc x.W0 x.h0 x.N st' a W
@[irreducible] def V (x:Cx) (ops:List Oper) (tk:List Oper) (fuel:Nat) (listed:Array Bool) (st:St) (K:St→Prop):Prop :=
 ∀ (D:List Tk),D.map (·.1)=tk→∀ a W,Conc x.W0 x.h0 x.N st a W→FrD ops.toArray D a→SD x.P ops.toArray D W →
  wpAnyH x.P .any ops.toArray (QN x K) (SD x.P ops.toArray D) fuel listed a W
def tkOk (ops:List Oper) (tk:List Oper) (o:Oper):Bool:=tk.all fun k=>ziE k && ziH ops.toArray k o
def ziL (ops:List Oper) (o:Oper) (N:Nat):Bool:=match o.dst with|some d=>decide (d < N) && !(o.looksAt ops.toArray).contains d|none=>false
def ziM (ops:List Oper) (listed:Array Bool) (tk:List Oper) (i:Nat) (o:Oper) (N:Nat):Bool :=
 Region.noSelect ops.toArray && Region.free .any ops.toArray listed i && (Region.ready .any ops.toArray listed).contains i && isQ o.op && ziE o && ziL ops o N && tkOk ops tk o
theorem ziN {ops tk:List Oper} {o:Oper} {D:List Tk} (h:tkOk ops tk o=true) (hD:D.map (·.1)=tk):∀ t ∈ D,ziE t.1=true∧ziH ops.toArray t.1 o=true:=by
 intro t ht
 have:=List.all_eq_true.1 h t.1 (by rw [← hD];exact List.mem_map_of_mem ht)
 simpa using this
theorem ziO {md:Region.Mode} {ops:Array Oper} {Q:Exit→Act→World→Prop} {S S':World→Prop} (hS:∀ w,S w→S' w):∀ (fuel:Nat) (listed:Array Bool) (a:Act) (w:World),wpAnyH P md ops Q S fuel listed a w→wpAnyH P md ops Q S' fuel listed a w
 | 0,_,_,_,h=>h
 | fuel+1,_,_,_,h=>⟨h.1,fun i hi=>wpOp_mono (fun a' w' h'=>⟨hS _ h'.1,ziO hS fuel _ a' w' h'.2⟩) (h.2 i hi)⟩
variable {x:Cx} {ops tk:List Oper} {fuel:Nat} {listed:Array Bool} {K:St→Prop}
theorem ziP {P:Program} {W0:Base} {h0:Hp} {N:Nat} {st:St} {o:Oper} {K:St→Prop} (hq:isQ o.op=true) (hwf:st.wf=true) (h:vop P ops st o K) :
  ∃ g sv,K (st.put o.dst g sv)∧sv.lt st.nx=true∧(g=true→Yv P W0 h0 N st o sv)∧∀ ρ a,FOk N ρ st.e a→Region.wanted o (yielded ops.toArray a.tmps)=g:=by
 obtain ⟨g,h,hg⟩:=zcn (N:=N) (o:=o) rfl h
 obtain ⟨sv,k1,k2,k3⟩:=zbS (P:=P) (W0:=W0) (h0:=h0) (N:=N) hwf (ziD hq h)
 exact ⟨g,sv,k1,k2,k3,hg⟩
theorem ziQ (i:Nat) {o:Oper} (hi:ops[i]?=some o) (hok:ziM ops listed tk i o x.N=true)
  (h:isQ o.op=true→st.wf=true→∃ g sv,V x ops (o :: tk) fuel (listed.setIfInBounds i true) (st.put o.dst g sv) K∧sv.lt st.nx=true∧(g=true→Yv x.P x.W0 x.h0 x.N st o sv)∧∀ ρ a,FOk x.N ρ st.e a→Region.wanted o (yielded ops.toArray a.tmps)=g):V x ops tk (fuel+1) listed st K:=by
 unfold V at *
 intro D hD a W hC hF hS
 simp only [ziM,jJ] at hok
 obtain ⟨⟨⟨⟨⟨⟨c1,c2⟩,c3⟩,c4⟩,c5⟩,c6⟩,c7⟩:=hok
 obtain ⟨ρ,hf,hW,hwf⟩:=hC
 obtain ⟨g,sv,k1,k2,k3,hg⟩:=h c4 hwf
 replace hg:=hg ρ a hf
 unfold ziL at c6
 split at c6
 case h_2=>cases c6
 rename_i d hd
 simp only [jJ,decide_eq_true_eq,Bool.not_eq_true',List.contains_eq_mem,decide_eq_false_iff_not] at c6
 have hi':ops.toArray[i]?=some o:=by simpa using hi
 let v:Value:=if g=true then sv.conc ρ else undef
 let D':List Tk:=(o,v,a) :: D
 have hC':Conc x.W0 x.h0 x.N (st.put o.dst g sv) (a.put o.dst v) W:=Conc.put_q hwf (fun d' e=>by rw [hd] at e;cases e;exact c6.1) hf hW k2 rfl
 have hown:∀ d',o.dst=some d'→d' ∉ o.looksAt ops.toArray:=fun d' e=>by rw [hd] at e;cases e;exact c6.2
 have hF':FrD ops.toArray D' (a.put o.dst v):=by
  intro t ht
  rcases List.mem_cons.1 ht with rfl|ht
  ·refine ⟨execOp_put o (ziF c5) a o.dst v hown,wanted_put o a o.dst v hown,fun d' e=>?_⟩
   simp only at e
   rw [hd] at e;cases e
   have hsz:d < a.tmps.size:=by rw [hf.2.1];exact c6.1
   simp [Act.put,hd,hsz]
  ·exact hF.put (ziN c7 hD) t ht
 have hS':SD x.P ops.toArray D' W:=by
  intro t ht hw
  rcases List.mem_cons.1 ht with rfl|ht
  ·have hg1:g=true:=by rw [← hg];exact hw
   have:=k3 hg1 ρ a W hf hW
   simp only [v,hg1,if_true]
   exact this
  ·exact hS t ht hw
 have hy:YieldsIf x.P ops.toArray (SD x.P ops.toArray D') o v a:=by
  cases hgg:g with
  | true=>exact .inl ⟨by rw [hg,hgg],fun w hw=>hw (o,v,a) (List.mem_cons_self ..) (by rw [hg,hgg])⟩
  | false=>exact .inr ⟨by rw [hg,hgg],by simp [v,hgg]⟩
 have H:=k1 D' (by simp [D',hD]) _ W hC' hF' hS'
 refine ziO (fun w hw=>fun t ht=>hw t (List.mem_cons_of_mem _ ht)) _ _ _ _ (wpAnyH_take hi' c1 c2 c3 ?_ hy hS' H)
 rintro c a' w ⟨e,_⟩
 cases e
def isMv:Op→Bool
 | .move _|.assign _=>true
 | _=>false
theorem ziR {ev:Operand→Value} {o:Oper} {v:Value} {W:World} (hm:isMv o.op=true) (h:(execOp ev o).run P W=.ok (.value v) W) (W':World):(execOp ev o).run P W'=.ok (.value v) W':=by
 obtain ⟨dst,op,ty,pos,af,gd⟩:=o
 cases op <;> simp only [isMv] at hm <;> first|cases hm|skip
 ·simp only [execOp,Sem.run_pure] at h ⊢
  simpa using h
 ·simp only [execOp,Sem.run_pure] at h ⊢
  simpa using h
theorem ziS (i:Nat) {o:Oper} (hi:ops[i]?=some o) (hok:ziM ops listed tk i o x.N=true) (hm:isMv o.op=true)
  (h:isQ o.op=true→st.wf=true→∃ g sv,V x ops tk fuel (listed.setIfInBounds i true) (st.put o.dst g sv) K∧sv.lt st.nx=true∧(g=true→Yv x.P x.W0 x.h0 x.N st o sv)∧∀ ρ a,FOk x.N ρ st.e a→Region.wanted o (yielded ops.toArray a.tmps)=g):V x ops tk (fuel+1) listed st K:=by
 unfold V at *
 intro D hD a W hC hF hS
 simp only [ziM,jJ] at hok
 obtain ⟨⟨⟨⟨⟨⟨c1,c2⟩,c3⟩,c4⟩,c5⟩,c6⟩,c7⟩:=hok
 obtain ⟨ρ,hf,hW,hwf⟩:=hC
 obtain ⟨g,sv,k1,k2,k3,hg⟩:=h c4 hwf
 replace hg:=hg ρ a hf
 unfold ziL at c6
 split at c6
 case h_2=>cases c6
 rename_i d hd
 simp only [jJ,decide_eq_true_eq,Bool.not_eq_true',List.contains_eq_mem,decide_eq_false_iff_not] at c6
 have hi':ops.toArray[i]?=some o:=by simpa using hi
 let v:Value:=if g=true then sv.conc ρ else undef
 have hC':Conc x.W0 x.h0 x.N (st.put o.dst g sv) (a.put o.dst v) W:=Conc.put_q hwf (fun d' e=>by rw [hd] at e;cases e;exact c6.1) hf hW k2 rfl
 have hF':FrD ops.toArray D (a.put o.dst v):=hF.put (ziN c7 hD)
 have hy:YieldsIf x.P ops.toArray (SD x.P ops.toArray D) o v a:=by
  cases hgg:g with
  | true =>
   refine .inl ⟨by rw [hg,hgg],fun w hw=>?_⟩
   have:=k3 hgg ρ a W hf hW
   simp only [v,hgg,if_true]
   exact ziR hm this w
  | false=>exact .inr ⟨by rw [hg,hgg],by simp [v,hgg]⟩
 have H:=k1 D hD _ W hC' hF' hS
 refine wpAnyH_take hi' c1 c2 c3 ?_ hy hS H
 rintro c a' w ⟨e,_⟩
 cases e
def onO (x:Option Oper) (K:Oper→Prop):Prop :=
 match x with
 | some o=>K o
 | none=>False
def vbr (x:Cx) (ops tk:List Oper) (fuel:Nat) (listed:Array Bool) (st:St) (K:St→Prop):List Nat→Prop
 | []=>True
 | i :: rs=>(onO ops[i]? fun o=>vop x.P ops st o fun st'=>vre x.P ops st' tk∧V x ops tk fuel (listed.setIfInBounds i true) st' K)∧vbr x ops tk fuel listed st K rs
def brOk (ops tk:List Oper) (N:Nat) (rs:List Nat):Bool:=rs.all fun i=>match ops[i]? with
 | some o=>tkOk ops tk o && (match o.dst with|some d=>decide (d < N)|none=>true)
 | none=>false
theorem ziT (rs:List Nat) (hr:Region.ready .any ops.toArray listed=rs) (hok:(!rs.isEmpty && brOk ops tk x.N rs)=true)
  (h:vbr x ops tk fuel listed st K rs):V x ops tk (fuel+1) listed st K:=by
 simp only [jJ,Bool.not_eq_true'] at hok
 unfold V at *
 intro D hD a W hC hF hS
 refine wpAnyH_all hr (by intro e;rw [e] at hok;simp at hok) fun i hi=>?_
 have hb:=List.all_eq_true.1 hok.2 i hi
 clear hok hr
 induction rs with
 | nil=>cases hi
 | cons j rs ih =>
  obtain ⟨h1,h2⟩:=h
  rcases List.mem_cons.1 hi with rfl|hi
  ·unfold onO at h1
   cases ho:ops[i]? with
   | none=>rw [ho] at h1;exact h1.elim
   | some o =>
    rw [ho] at h1 hb
    simp only [jJ] at h1 hb
    have ho':ops.toArray[i]?=some o:=by simpa using ho
    have hd:∀ d',o.dst=some d'→d' < x.N:=by
     intro d' e
     have:=hb.2
     rw [e] at this
     simpa using this
    unfold wpOp
    simp only [ho']
    rcases zcY (Q:=QN x K) hd h1 hC with ⟨hw,hwp⟩|⟨hw,st',⟨k1,k2⟩,hC'⟩
    ·rw [if_pos hw]
     left
     refine Oper.wp_mono ?_ (ziK hwp)
     rintro a' W' ⟨⟨u,ds,rfl⟩,st',⟨k1,k2⟩,hC'⟩
     have hF':FrD ops.toArray D (Act.put { a with defers:=ds } o.dst u):=FrD.put (FrD.defers hF) (ziN hb.1 hD)
     have hS':=ziJ (P:=x.P) hC' hF' (by rw [hD];exact k1)
     unfold V at k2
     exact ⟨hS',k2 D hD _ W' hC' hF' hS'⟩
    ·rw [if_neg (by simp [hw])]
     have hF':FrD ops.toArray D (a.put o.dst undef):=hF.put (ziN hb.1 hD)
     have hS':=ziJ (P:=x.P) hC' hF' (by rw [hD];exact k1)
     unfold V at k2
     exact ⟨hS',k2 D hD _ W hC' hF' hS'⟩
  ·exact ih h2 hi
theorem ziU (hr:Region.ready .any ops.toArray listed=[]) (h:K st):V x ops tk fuel listed st K:=by
 unfold V
 intro D hD a W hC hF hS
 exact wpAnyH_done hr ⟨rfl,st,h,hC⟩ fuel
theorem Conc.drew {a:Act} {W:World} (h:Conc W0 h0 N st a W):Conc W0 h0 N st a { W with drawn:=W.drawn+1 }:=by
 obtain ⟨ρ,hf,hW,hw⟩:=h
 exact ⟨ρ,hf,hW.grow (h':=st.h) ((Below.refl _ _).drew) (Hp.le_refl _) (fun b o hb=>hW.sees b o hb) (fun b o h1 h2=>by rw [h1] at h2;cases h2),hw⟩
theorem ziV {Q:Exit→St→Prop} {id:Nat} (hm:x.P.follows .mixedOrders=true) (h:V x ops [] ops.length (Array.replicate ops.length false) st fun st'=>Q .normal st'):T x st (.region id ops.toArray true) Q:=by
 unfold T
 unfold V at h
 intro a W hC
 refine Code.wp_mono ?_ (wp_region_held (id:=id) (Q:=QN x fun st'=>Q .normal st') (S:=SD x.P ops.toArray []) hm (h [] rfl a _ hC.drew (fun t ht=>by cases ht) (fun t ht=>by cases ht)))
 rintro e a' W' ⟨rfl,st',hq,hC'⟩
 exact ⟨st',hq,hC'⟩
end
def ziW (ops:List Oper):List Nat→Option (List (Nat × Oper))
 | []=>some []
 | i :: is=>match ops[i]?,ziW ops is with
  | some o,some l=>some ((i,o) :: l)
  | _,_=>none
def ziX (ops:List Oper) (N:Nat):List (Nat × Oper)→Nat→Array Bool→List Oper→Bool
 | [],_,_,_=>true
 | _ :: _,0,_,_=>false
 | (i,o) :: l,fuel+1,listed,tk=>ziM ops listed tk i o N && ziX ops N l fuel (listed.setIfInBounds i true) (if isMv o.op=true then tk else o :: tk)
def ziY (o:Oper) (tk:List Oper):List Oper:=if isMv o.op=true then tk else o :: tk
def ziZ:List (Nat × Oper)→List Oper→List Oper
 | [],tk=>tk
 | (_,o) :: l,tk=>ziZ l (ziY o tk)
def zi0:List (Nat × Oper)→Array Bool→Array Bool
 | [],listed=>listed
 | (i,_) :: l,listed=>zi0 l (listed.setIfInBounds i true)
section
variable {x:Cx} {ops:List Oper} {K:St→Prop}
theorem zi1:∀ {is:List Nat} {l:List (Nat × Oper)},ziW ops is=some l→∀ io ∈ l,ops[io.1]?=some io.2
 | [],l,h,io,hi=>by simp only [ziW,Option.some.injEq] at h;subst h;cases hi
 | i :: is,l,h,io,hi=>by
  simp only [ziW] at h
  split at h
  ·rename_i o l' ho hl
   simp only [Option.some.injEq] at h
   subst h
   rcases List.mem_cons.1 hi with rfl|hi
   ·exact ho
   ·exact zi1 hl io hi
  ·cases h
theorem zi2 {K':St→Prop}:∀ {l:List (Nat × Oper)} {fuel:Nat} {listed:Array Bool} {tk:List Oper} {st:St},(∀ io ∈ l,ops[io.1]?=some io.2)→ziX ops x.N l fuel listed tk=true →
  vops x.P ops (l.map (·.2)) st K'→(∀ st',K' st'→V x ops (ziZ l tk) (fuel - l.length) (zi0 l listed) st' K)→V x ops tk fuel listed st K
 | [],fuel,listed,tk,st,_,_,h,hk=>hk _ h
 | _ :: _,0,_,_,_,_,hok,_,_=>by simp [ziX] at hok
 | (i,o) :: l,fuel+1,listed,tk,st,hp,hok,h,hk=>by
  simp only [ziX,jJ] at hok
  by_cases hm:isMv o.op=true
  ·refine ziS i (hp _ (List.mem_cons_self ..)) hok.1 hm fun hq hwf=>?_
   obtain ⟨g,sv,k1,k2⟩:=ziP (W0:=x.W0) (h0:=x.h0) (N:=x.N) hq hwf h
   have hok2:=hok.2
   rw [if_pos hm] at hok2
   exact ⟨g,sv,zi2 (fun io hi=>hp io (List.mem_cons_of_mem _ hi)) hok2 k1 (fun st' h'=>by simpa [ziZ,ziY,zi0,hm] using hk st' h'),k2⟩
  have hok2:=hok.2
  rw [if_neg hm] at hok2
  refine ziQ i (hp _ (List.mem_cons_self ..)) hok.1 fun hq hwf=>?_
  obtain ⟨g,sv,k1,k2⟩:=ziP (W0:=x.W0) (h0:=x.h0) (N:=x.N) hq hwf h
  exact ⟨g,sv,zi2 (fun io hi=>hp io (List.mem_cons_of_mem _ hi)) hok2 k1 (fun st' h'=>by simpa [ziZ,ziY,zi0,hm] using hk st' h'),k2⟩
theorem zi3 (is:List Nat) {l:List (Nat × Oper)} {fuel:Nat} {listed:Array Bool} {tk:List Oper} {st:St} (hp:ziW ops is=some l) (hok:ziX ops x.N l fuel listed tk=true)
  (h:vops x.P ops (l.map (·.2)) st fun st'=>V x ops (ziZ l tk) (fuel - l.length) (zi0 l listed) st' K):V x ops tk fuel listed st K :=
 zi2 (zi1 hp) hok h fun _ h=>h
def zi4 (ops:List Oper):Nat→List Oper→List (Nat × Oper)
 | _,[]=>[]
 | k,o :: l=>(k,o) :: zi4 ops (k+1) l
def zi5 (ops:List Oper):Bool:=(Region.ready .any ops.toArray (zi0 (zi4 ops 0 ops) (Array.replicate ops.length false))).isEmpty
theorem zi6 {ops:List Oper}:∀ {k:Nat} {l:List Oper},(zi4 ops k l).map (·.2)=l∧(zi4 ops k l).length=l.length
 | _,[]=>⟨rfl,rfl⟩
 | k,o :: l=>by simp [zi4,(zi6 (ops:=ops) (k:=k+1) (l:=l)).1,(zi6 (ops:=ops) (k:=k+1) (l:=l)).2]
theorem zi7 {ops:List Oper}:∀ {k:Nat} {l:List Oper},(∀ j,l[j]?=ops[k+j]?)→∀ io ∈ zi4 ops k l,ops[io.1]?=some io.2
 | _,[],_,_,h=>by cases h
 | k,o :: l,hl,io,h=>by
  rcases List.mem_cons.1 h with rfl|h
  ·simpa using (hl 0).symm
  ·exact zi7 (k:=k+1) (l:=l) (fun j=>by have:=hl (j+1);simpa [Nat.add_assoc,Nat.add_comm 1 j] using this) io h
theorem zi8 {st:St} {Q:Exit→St→Prop} {id:Nat} (hm:x.P.follows .mixedOrders=true) (hok:(ziX ops x.N (zi4 ops 0 ops) ops.length (Array.replicate ops.length false) [] && zi5 ops)=true)
  (h:vops x.P ops ops st fun st'=>Q .normal st'):T x st (.region id ops.toArray true) Q:=by
 simp only [jJ] at hok
 have hr:Region.ready .any ops.toArray (zi0 (zi4 ops 0 ops) (Array.replicate ops.length false))=[]:=by simpa [zi5] using hok.2
 exact ziV hm (zi2 (zi7 (by simp)) hok.1 (by rw [zi6.1];exact h) fun st' hk=>ziU hr hk)
end
@[congr] theorem zi9 {x:Cx} {ops tk:List Oper} {fuel:Nat} {listed:Array Bool} {st st':St} {K:St→Prop} (h:st=st'):V x ops tk fuel listed st K=V x ops tk fuel listed st' K:=by rw [h]
section
variable {P:Program} {ops tk l:List Oper} {st:St} {o:Oper} {i:Nat} {x:Cx} {fuel:Nat} {listed:Array Bool} {K:St→Prop}
theorem zja:vre P ops st []=True:=rfl
theorem zjb:vre P ops st (o :: l)=(isQ o.op=true∧(vop P ops st o fun st'=>dstE o st.e st'.e)∧vre P ops st l):=rfl
theorem zjc:ziZ [] tk=tk:=rfl
theorem zjd {i:Nat} {o:Oper} {l:List (Nat × Oper)} {tk:List Oper}:ziZ ((i,o) :: l) tk=ziZ l (ziY o tk):=rfl
section
variable {d:Option Nat} {t:TypeId} {p:String} {af:Array Edge} {gd:Option (Nat × Bool)} {tk:List Oper} {x y z:Operand} {t1 t2:TypeId} {b:BinOp} {u:UnOp} {n:Nat} {c:Call}
@[go_sem] theorem zje:ziY ⟨d,.move x,t,p,af,gd⟩ tk=tk:=rfl
@[go_sem] theorem zjf:ziY ⟨d,.assign x,t,p,af,gd⟩ tk=tk:=rfl
@[go_sem] theorem zjg:ziY ⟨d,.pick x y z,t,p,af,gd⟩ tk=⟨d,.pick x y z,t,p,af,gd⟩ :: tk:=rfl
@[go_sem] theorem zjh:ziY ⟨d,.load t1 x,t,p,af,gd⟩ tk=⟨d,.load t1 x,t,p,af,gd⟩ :: tk:=rfl
@[go_sem] theorem zji:ziY ⟨d,.nilCheck x,t,p,af,gd⟩ tk=⟨d,.nilCheck x,t,p,af,gd⟩ :: tk:=rfl
@[go_sem] theorem zjj:ziY ⟨d,.binOp b t1 x y t2,t,p,af,gd⟩ tk=⟨d,.binOp b t1 x y t2,t,p,af,gd⟩ :: tk:=rfl
@[go_sem] theorem zjk:ziY ⟨d,.unOp u t1 x,t,p,af,gd⟩ tk=⟨d,.unOp u t1 x,t,p,af,gd⟩ :: tk:=rfl
@[go_sem] theorem zjl:ziY ⟨d,.convert t1 t2 x,t,p,af,gd⟩ tk=⟨d,.convert t1 t2 x,t,p,af,gd⟩ :: tk:=rfl
@[go_sem] theorem zjm:ziY ⟨d,.fieldAddr t1 x n,t,p,af,gd⟩ tk=⟨d,.fieldAddr t1 x n,t,p,af,gd⟩ :: tk:=rfl
@[go_sem] theorem zjn:ziY ⟨d,.field t1 x n,t,p,af,gd⟩ tk=⟨d,.field t1 x n,t,p,af,gd⟩ :: tk:=rfl
@[go_sem] theorem zjo:ziY ⟨d,.indexAddr t1 x y,t,p,af,gd⟩ tk=⟨d,.indexAddr t1 x y,t,p,af,gd⟩ :: tk:=rfl
@[go_sem] theorem zjp:ziY ⟨d,.index t1 x y,t,p,af,gd⟩ tk=⟨d,.index t1 x y,t,p,af,gd⟩ :: tk:=rfl
@[go_sem] theorem zjq:ziY ⟨d,.extract x n,t,p,af,gd⟩ tk=⟨d,.extract x n,t,p,af,gd⟩ :: tk:=rfl
@[go_sem] theorem zjr:ziY ⟨d,.call c,t,p,af,gd⟩ tk=⟨d,.call c,t,p,af,gd⟩ :: tk:=rfl
end
theorem zjs:vbr x ops tk fuel listed st K []=True:=rfl
theorem zjt {rs:List Nat}:vbr x ops tk fuel listed st K (i :: rs)=((onO ops[i]? fun o=>vop x.P ops st o fun st'=>vre x.P ops st' tk∧V x ops tk fuel (listed.setIfInBounds i true) st' K)∧vbr x ops tk fuel listed st K rs):=rfl
theorem zju {K:Oper→Prop}:onO (some o) K=K o:=rfl
theorem zjv {d:Tmp} {op:Op} {ty:TypeId} {pos:String} {af:Array Edge} {gd:Option (Nat × Bool)} {e e':Env}:dstE ⟨some d,op,ty,pos,af,gd⟩ e e'=(look d e'=look d e):=rfl
attribute [go_sem] zja zjb zjc zjd zjs zjt zju zjv
attribute [go_sem] List.getElem?_cons_zero List.getElem?_cons_succ Int.ofNat_lt Int.ofNat_le jY
@[congr] theorem zjw {st st':St} {l l':List Oper} (h:st=st') (h':l=l'):vre P ops st l=vre P ops st' l':=by rw [h,h']
@[congr] theorem zjx {st st':St} {rs:List Nat} (h:st=st'):vbr x ops tk fuel listed st K rs=vbr x ops tk fuel listed st' K rs:=by rw [h]
@[congr] theorem zjy {x x':Option Oper} {K:Oper→Prop} (h:x=x'):onO x K=onO x' K:=by rw [h]
end
open Go Go.RowKit
theorem zjz {n:Int} (h:-9223372036854775808≤n∧n≤9223372036854775807):IntKind.i64.wrap n=n:=by
 simp only [IntKind.wrap,IntKind.bits,IntKind.signed,Bool.true_and,Nat.reduceSub,Int.reducePow]
 split <;> rename_i hh <;> simp only [decide_eq_true_eq,ge_iff_le] at hh <;> omega
theorem zjA {k n:Nat} (h:k < n) (hn:n≤9223372036854775807):IntKind.i64.wrap ((k:Int)+1)=((k+1:Nat):Int):=by
 rw [zjz (by omega)];rfl
theorem zjB {a b:Int} (h:a=b):(some (true,SV.c (SC.v (Value.int IntKind.i64 a))):Option (Bool × SV))=some (true,SV.c (SC.v (Value.int IntKind.i64 b))):=by rw [h]
theorem zjC {α:Type} {a b:List α} {k:Nat} (ha:k < a.length) (hb:k < b.length) (h:a.take k=b.take k) (he:a[k]=b[k]):a.take (k+1)=b.take (k+1):=by
 rw [List.take_succ_eq_append_getElem ha,List.take_succ_eq_append_getElem hb,h,he]
theorem zjD {α:Type} [BEq α] [LawfulBEq α] {a b:α} (h:(a != b)=true):a ≠ b:=by simpa using h
theorem zjE {α:Type} [BEq α] [LawfulBEq α] {a b:α} (h:(a != b)=false):a=b:=by simpa using h
theorem zjF {p:Prop} [Decidable p] (h:¬p):Value.bool false=Value.bool (decide p):=by rw [decide_eq_false h]
theorem zjG {p:Prop} [Decidable p] (h:p):Value.bool true=Value.bool (decide p):=by rw [decide_eq_true h]
theorem zjH {k n:Nat} (h:decide (k < n)=true):k < n:=by simpa using h
theorem zjI {k n:Nat} (h:decide (k < n)=false):n≤k:=by simpa using h
structure Crew where
 start:Int
 fin:Int
 pause:Int
 moves:Sl Int
def Crew.cells (c:Crew):List Value:=[.int .i64 c.start,.int .i64 c.fin,.int .i64 c.pause,c.moves.val]
instance:Enc Crew where
 size:=4
 enc p:=p.cells
 len _:=rfl
 one p u hu:=by simp only [Crew.cells,List.mem_cons,List.not_mem_nil,or_false] at hu;rcases hu with rfl|rfl|rfl|rfl <;> rfl
 ok h p:=I64 p.start∧I64 p.fin∧I64 p.pause∧p.moves.Ok h
 mono hs H:=⟨H.1,H.2.1,H.2.2.1,H.2.2.2.mono hs⟩
theorem zjJ {p:Crew}:Enc.enc p=[.int .i64 p.start,.int .i64 p.fin,.int .i64 p.pause,p.moves.val]:=rfl
attribute [go_sem] zjJ
def Crew.v (c:Crew):Value:=.agg #[.int .i64 c.start,.int .i64 c.fin,.int .i64 c.pause,c.moves.val]
end Go.SL
