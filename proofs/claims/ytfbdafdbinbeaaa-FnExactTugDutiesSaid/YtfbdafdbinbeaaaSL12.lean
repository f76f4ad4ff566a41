/- Plain theorems about the model: a symbolic state, its evaluation and its soundness. No condition; nothing of the program is named. -/
import Derived.Test.YtfbdafdbinbeaaaSL11
set_option linter.unusedVariables false
set_option linter.unusedSimpArgs false
namespace Go.SL
open Go Go.RowKit

section
variable {P : Program} {st : St} {g : Bool} {K : St → Prop} {L : SV → Prop} {ops l : List Oper} {o : Oper}

@[congr] theorem vops_congr {st st' : St} (h : st = st') : vops P ops l st K = vops P ops l st' K := by rw [h]
@[go_sem] theorem ev_nil : vops P ops [] st K = K st := rfl
@[go_sem] theorem ev_cons : vops P ops (o :: l) st K = vop P ops st o (fun st' => vops P ops l st' K) := rfl

@[congr] theorem vop_congr {st st' : St} (h : st = st') : vop P ops st o K = vop P ops st' o K := by rw [h]
@[congr] theorem onD_congr {x x' : Option Tmp} {K : Tmp → Prop} (h : x = x') : onD x K = onD x' K := by rw [h]
@[congr] theorem onG_congr {x x' : Option (Bool × SV)} {w : Bool} {K : Bool → Prop} (h : x = x') : onG x w K = onG x' w K := by rw [h]
@[congr] theorem vopG_congr {st st' : St} {g g' : Bool} {op : Op} (h : st = st') (hg : g = g') : vopG P st o g op K = vopG P st' o g' op K := by rw [h, hg]
@[go_sem] theorem ev_op {d : Option Tmp} {op : Op} {ty : TypeId} {pos : String} {af : Array Edge} : vop P ops st ⟨d, op, ty, pos, af, none⟩ K = vopG P st ⟨d, op, ty, pos, af, none⟩ true op K := rfl
@[go_sem] theorem ev_opg {d : Option Tmp} {op : Op} {ty : TypeId} {pos : String} {af : Array Edge} {j : Nat} {w : Bool} : vop P ops st ⟨d, op, ty, pos, af, some (j, w)⟩ K = onD (dstAt ops j) fun dd => onG (look dd st.e) w fun g => vopG P st ⟨d, op, ty, pos, af, some (j, w)⟩ g op K := rfl
@[go_sem] theorem ev_onD {d : Tmp} {K : Tmp → Prop} : onD (some d) K = K d := rfl
@[go_sem] theorem ev_onG {c w : Bool} {sv : SV} {K : Bool → Prop} : onG (some (c, sv)) w K = ((c = true → Value.isB sv.val) ∧ K (c && (Value.B sv.val == w))) := rfl
@[go_sem] theorem ev_dst0 {d : Option Tmp} {op : Op} {ty : TypeId} {pos : String} {af : Array Edge} {gd : Option (Nat × Bool)} : dstAt (⟨d, op, ty, pos, af, gd⟩ :: l) 0 = d := rfl
@[go_sem] theorem ev_dstS {j : Nat} : dstAt (o :: l) (j + 1) = dstAt l j := rfl
@[go_sem] theorem ev_look0 {α : Type} {t : Nat} {y : α} {l : List (Nat × α)} : look t ((t, y) :: l) = some y := by simp [look]
@[go_sem] theorem ev_lookS {α : Type} {t k : Nat} {y : α} {l : List (Nat × α)} (h : (k == t) = false) : look t ((k, y) :: l) = look t l := by
  have : k ≠ t := by simpa using h
  simp [look, this]

/-- Operands. -/
def onL (x : Option (Bool × SV)) (g : Bool) (L : SV → Prop) : Prop :=
  match x with
  | some (c, sv) => (g = true → c = true) ∧ L sv
  | none => False
@[congr] theorem onL_congr {x x' : Option (Bool × SV)} {g g' : Bool} (h : x = x') (hg : g = g') : onL x g L = onL x' g' L := by rw [h, hg]
@[congr] theorem getO_congr {st st' : St} {g g' : Bool} {x : Operand} (h : st = st') (hg : g = g') : getO st g x L = getO st' g' x L := by rw [h, hg]
@[go_sem] theorem ev_tmp {t : Tmp} : getO st g (.tmp t) L = onL (look t st.e) g L := rfl
@[go_sem] theorem ev_const {v : Value} : getO st g (.const v) L = L (.of v) := rfl
@[go_sem] theorem ev_func {f : FuncId} : getO st g (.func f) L = L (.c (.v (.func (.func f) #[] #[]))) := rfl
@[go_sem] theorem ev_onL {c : Bool} {sv : SV} : onL (some (c, sv)) g L = ((g = true → c = true) ∧ L sv) := rfl
@[congr] theorem getOs_congr {st st' : St} {g g' : Bool} {xs : List Operand} {L : List SV → Prop} (h : st = st') (hg : g = g') : getOs st g xs L = getOs st' g' xs L := by rw [h, hg]
@[go_sem] theorem ev_gets0 {L : List SV → Prop} : getOs st g [] L = L [] := rfl
@[go_sem] theorem ev_getsS {x : Operand} {xs : List Operand} {L : List SV → Prop} : getOs st g (x :: xs) L = getO st g x fun v => getOs st g xs fun vs => L (v :: vs) := rfl
@[go_sem] theorem ev_of_int {k : IntKind} {n : Int} : SV.of (.int k n) = .c (.v (.int k n)) := rfl
@[go_sem] theorem ev_of_bool {b : Bool} : SV.of (.bool b) = .c (.v (.bool b)) := rfl
@[go_sem] theorem ev_of_str {b : ByteArray} : SV.of (.string b) = .c (.v (.string b)) := rfl
@[go_sem] theorem ev_of_ptr {b : Option Addr} : SV.of (.pointer b) = .c (.v (.pointer b)) := rfl
@[go_sem] theorem ev_of_slice {b : Option Addr} {n c : Nat} : SV.of (.slice b n c) = .c (.v (.slice b n c)) := rfl
@[go_sem] theorem ev_of_func {f : Go.Fn} {x y : Array Value} : SV.of (.func f x y) = .c (.v (.func f x y)) := rfl
@[go_sem] theorem ev_of_tup {x : Array Value} : SV.of (.tuple x) = .c (.v (.tuple x)) := rfl
@[go_sem] theorem ev_of_agg {x : List Value} : SV.of (.agg x.toArray) = .g (x.map .v) := rfl

/-- Put. -/
@[go_sem] theorem ev_put {e : Env} {p : List (Nat × PB)} {h : Hp} {n : Nat} {d : Nat} {sv : SV} : St.put ⟨e, p, h, n⟩ (some d) g sv = ⟨(d, g, sv) :: e, p, h, n⟩ := rfl
@[go_sem] theorem ev_put0 {sv : SV} : St.put st none g sv = st := rfl
@[go_sem] theorem ev_ePut {e : Env} {d : Nat} {sv : SV} : envPut e (some d) g sv = (d, g, sv) :: e := rfl
@[go_sem] theorem ev_ePut0 {e : Env} {sv : SV} : envPut e none g sv = e := rfl

/-- Operations. -/
@[go_sem] theorem ev_move {x : Operand} : vopG P st o g (.move x) K = getO st g x fun sv => K (st.put o.dst g sv) := rfl
@[go_sem] theorem ev_assign {x : Operand} : vopG P st o g (.assign x) K = getO st g x fun sv => K (st.put o.dst g sv) := rfl
@[go_sem] theorem ev_pick {c a b : Operand} : vopG P st o g (.pick c a b) K = getO st g c fun vc => (g = true → Value.isB vc.val) ∧
    getO st (g && Value.B vc.val) a fun va => (g = true → Value.B vc.val = true → Value.isB va.val) ∧
      getO st (g && !Value.B vc.val) b fun vb => (g = true → Value.B vc.val = false → Value.isB vb.val) ∧
        K (st.put o.dst g (.c (.v (.bool (bif Value.B vc.val then Value.B va.val else Value.B vb.val))))) := rfl
@[go_sem] theorem ev_load {t : TypeId} {x : Operand} : vopG P st o g (.load t x) K = getO st g x fun v => vload P st g t v fun sv => K (st.put o.dst g sv) := rfl
@[go_sem] theorem ev_nilCheck {x : Operand} : vopG P st o g (.nilCheck x) K = getO st g x fun v => vnil g v fun sv => K (st.put o.dst g sv) := rfl
@[go_sem] theorem ev_binOp {b : BinOp} {t t' : TypeId} {x y : Operand} : vopG P st o g (.binOp b t x y t') K = getO st g x fun a => getO st g y fun c => vbin P g b t a c fun v => K (st.put o.dst g (.c (.v v))) := rfl
@[go_sem] theorem ev_unOp {b : UnOp} {t : TypeId} {x : Operand} : vopG P st o g (.unOp b t x) K = getO st g x fun v => vun g b v fun sv => K (st.put o.dst g sv) := rfl
@[go_sem] theorem ev_convert {s d : TypeId} {x : Operand} : vopG P st o g (.convert s d x) K = getO st g x fun v => vconv P g s d v fun sv => K (st.put o.dst g sv) := rfl
@[go_sem] theorem ev_fieldAddr {t : TypeId} {x : Operand} {f : Nat} : vopG P st o g (.fieldAddr t x f) K = getO st g x fun v => vfieldAddr P g t v f fun sv => K (st.put o.dst g sv) := rfl
@[go_sem] theorem ev_field {t : TypeId} {x : Operand} {f : Nat} : vopG P st o g (.field t x f) K = getO st g x fun v => vfield P g t v f fun sv => K (st.put o.dst g sv) := rfl
@[go_sem] theorem ev_indexAddr {t : TypeId} {x i : Operand} : vopG P st o g (.indexAddr t x i) K = getO st g x fun v => getO st g i fun j => vindexAddr P st g t v j fun sv => K (st.put o.dst g sv) := rfl
@[go_sem] theorem ev_index {t : TypeId} {x i : Operand} : vopG P st o g (.index t x i) K = getO st g x fun v => getO st g i fun j => vindex P g t v j fun sv => K (st.put o.dst g sv) := rfl
@[go_sem] theorem ev_extract {x : Operand} {i : Nat} : vopG P st o g (.extract x i) K = getO st g x fun v => vextract g v i fun sv => K (st.put o.dst g sv) := rfl
@[go_sem] theorem ev_slice {t : TypeId} {x : Operand} {lo hi : Option Operand} : vopG P st o g (.slice t x lo hi none) K = getO st g x fun v => optO st g lo fun l => optO st g hi fun u => vslice P g t v l u fun sv => K (st.put o.dst g sv) := rfl
@[go_sem] theorem ev_build {t : TypeId} {ps : List (Nat × Operand)} : vopG P st o g (.build t ps.toArray) K = getOs st g (ps.map (·.2)) fun vs => (g = true) ∧ vbuild P t ((ps.map (·.1)).zip vs) fun sv => K (st.put o.dst g sv) := rfl
@[go_sem] theorem ev_len {t : TypeId} {x : Operand} : vopG P st o g (.call ⟨.builtin .len, #[x], #[t]⟩) K = getO st g x fun v => vlen P st g t v fun sv => K (st.put o.dst g sv) := rfl
@[go_sem] theorem ev_max {t : TypeId} {ts : List TypeId} {xs : List Operand} : vopG P st o g (.call ⟨.builtin .max, xs.toArray, (t :: ts).toArray⟩) K = getOs st g xs fun vs => vfold P g max t vs fun sv => K (st.put o.dst g sv) := rfl
@[go_sem] theorem ev_min {t : TypeId} {ts : List TypeId} {xs : List Operand} : vopG P st o g (.call ⟨.builtin .min, xs.toArray, (t :: ts).toArray⟩) K = getOs st g xs fun vs => vfold P g min t vs fun sv => K (st.put o.dst g sv) := rfl
@[go_sem] theorem ev_alloc {t : TypeId} : vopG P st o g (.alloc t) K = (g = true ∧ zeroOn P t fun z => K ⟨envPut st.e o.dst true (.c (.p st.nx 0)), (st.nx, .box t (z.map .v)) :: st.p, st.h, st.nx + 1⟩) := rfl
@[go_sem] theorem ev_box {t : TypeId} {x : Operand} : vopG P st o g (.box t x) K = (g = true ∧ getO st true x fun v => (v.cells.all (·.okc st.p)) = true ∧ K ⟨envPut st.e o.dst true (.c (.p st.nx 0)), (st.nx, .box t v.cells) :: st.p, st.h, st.nx + 1⟩) := rfl
@[go_sem] theorem ev_store {t : TypeId} {a x : Operand} : vopG P st o g (.store t a x) K = (g = true ∧ o.dst = none ∧ getO st true a fun va => getO st true x fun vx => vstore P st.p t va vx fun p => K ⟨st.e, p, st.h, st.nx⟩) := rfl
@[go_sem] theorem ev_call {f : Operand} {xs : List Operand} {ts : Array TypeId} : vopG P st o g (.call ⟨.value f, xs.toArray, ts⟩) K = getO st g f fun vf => getOs st g xs fun vs => vcall P st g vf vs fun v h' => K ⟨envPut st.e o.dst g (.of v), st.p, h', st.nx⟩ := rfl
@[go_sem] theorem ev_append {s x : Operand} {t : TypeId} : vopG P st o g (.call ⟨.builtin .append, #[s, x], #[t, t]⟩) K = (g = true ∧ t = t ∧ getO st true s fun vs => getO st true x fun vx =>
      vappendA P st t vs vx fun e sz n xs p => K ⟨envPut st.e o.dst true (.c (.s st.nx)), (st.nx, .row e sz n xs) :: p, st.h, st.nx + 1⟩) := rfl
@[go_sem] theorem ev_buildSlice {t : TypeId} {n : Nat} {ps : List (Nat × Operand)} : vopG P st o g (.buildSlice t n ps.toArray) K = (g = true ∧ getOs st true (ps.map (·.2)) fun vs => elemOn P t fun e => 0 < szT P e ∧ zeroOn P e fun z => z.length = szT P e ∧ n * szT P e ≤ 16777216 ∧ ps.length = n ∧ partsS (szT P e) 0 (ps.map (·.1)) vs ∧
      K (St.mk (envPut st.e o.dst true (.c (.s st.nx))) ((st.nx, .row e (szT P e) n (vs.flatMap fun x => x.cells.map (·.val))) :: st.p) st.h (st.nx + 1))) := rfl
@[go_sem] theorem ev_makeSlice {t : TypeId} {l c : Operand} : vopG P st o g (.makeSlice t l c) K = (g = true ∧ vmake P st t l c fun e sz n xs => K ⟨envPut st.e o.dst true (.c (.s st.nx)), (st.nx, .row e sz n xs) :: st.p, st.h, st.nx + 1⟩) := rfl

@[go_sem] theorem ev_opt0 {L : Option SV → Prop} : optO st g none L = L none := rfl
@[go_sem] theorem ev_opt1 {x : Operand} {L : Option SV → Prop} : optO st g (some x) L = getO st g x fun v => L (some v) := rfl

/-- Loads. -/
def loadP (agg : Bool) (n o : Nat) (g : Bool) (b : Option PB) (L : SV → Prop) : Prop :=
  match b with
  | some (.box _ cs) => if agg = true then (g = true → o + n ≤ cs.length) ∧ L (.g (cutC o n cs)) else (g = true → o < cs.length) ∧ L (.c (cs.getD o (.v undef)))
  | some (.row _ _ _ xs) => if agg = true then (g = true → o + n ≤ xs.length) ∧ L (.g (((xs.drop o).take n).map .v)) else (g = true → o < xs.length) ∧ L (.c (.v (xs.getD o undef)))
  | none => False
def loadV (agg : Bool) (n : Nat) (g : Bool) (y : Value) (h : Hp) (L : SV → Prop) : Prop :=
  if agg = true then (g = true → Value.isP y ∧ (h.lds (Value.P y) n).isSome = true) ∧ L (.g ((h.ldD (Value.P y) n).map .v))
  else (g = true → Value.isP y ∧ (h.lds (Value.P y) 1).isSome = true) ∧ L (.c (.v ((h.ldD (Value.P y) 1).getD 0 undef)))
@[congr] theorem loadP_congr {agg agg' : Bool} {n n' o o' : Nat} {b b' : Option PB} (h1 : agg = agg') (h2 : n = n') (h3 : o = o') (h4 : b = b') : loadP agg n o g b L = loadP agg' n' o' g b' L := by rw [h1, h2, h3, h4]
@[congr] theorem loadV_congr {agg agg' : Bool} {n n' : Nat} {y y' : Value} {h h' : Hp} (h1 : agg = agg') (h2 : n = n') (h3 : y = y') (h4 : h = h') : loadV agg n g y h L = loadV agg' n' g y' h' L := by rw [h1, h2, h3, h4]
@[congr] theorem vload_congr {t : TypeId} {x x' : SV} (h : x = x') : vload P st g t x L = vload P st g t x' L := by rw [h]
@[go_sem] theorem ev_loadp {t : TypeId} {r o : Nat} : vload P st g t (.c (.p r o)) L = (hasT P t = true ∧ loadP (aggT P t) (szT P t) o g (look r st.p) L) := rfl
@[go_sem] theorem ev_loadv {t : TypeId} {y : Value} : vload P st g t (.c (.v y)) L = (hasT P t = true ∧ loadV (aggT P t) (szT P t) g y st.h L) := rfl
@[go_sem] theorem ev_lp1 {n o : Nat} {ty : TypeId} {cs : List SC} : loadP true n o g (some (.box ty cs)) L = ((g = true → o + n ≤ cs.length) ∧ L (.g (cutC o n cs))) := by simp [loadP]
@[go_sem] theorem ev_lp2 {n o : Nat} {ty : TypeId} {cs : List SC} : loadP false n o g (some (.box ty cs)) L = ((g = true → o < cs.length) ∧ L (.c (cs.getD o (.v undef)))) := by simp [loadP]
@[go_sem] theorem ev_lp3 {n o : Nat} {e : TypeId} {sz m : Nat} {xs : List Value} : loadP true n o g (some (.row e sz m xs)) L = ((g = true → o + n ≤ xs.length) ∧ L (.g (((xs.drop o).take n).map .v))) := by simp [loadP]
@[go_sem] theorem ev_lp4 {n o : Nat} {e : TypeId} {sz m : Nat} {xs : List Value} : loadP false n o g (some (.row e sz m xs)) L = ((g = true → o < xs.length) ∧ L (.c (.v (xs.getD o undef)))) := by simp [loadP]
@[go_sem] theorem ev_lv1 {n : Nat} {y : Value} {h : Hp} : loadV true n g y h L = ((g = true → Value.isP y ∧ (h.lds (Value.P y) n).isSome = true) ∧ L (.g ((h.ldD (Value.P y) n).map .v))) := by simp [loadV]
@[go_sem] theorem ev_lv2 {n : Nat} {y : Value} {h : Hp} : loadV false n g y h L = ((g = true → Value.isP y ∧ (h.lds (Value.P y) 1).isSome = true) ∧ L (.c (.v ((h.ldD (Value.P y) 1).getD 0 undef)))) := by simp [loadV]

/-- Addresses. -/
def onF (x : Option (Nat × TypeId)) (K : Nat → TypeId → Prop) : Prop :=
  match x with
  | none => False
  | some (a, b) => K a b
@[congr] theorem onF_congr {x x' : Option (Nat × TypeId)} {K : Nat → TypeId → Prop} (h : x = x') : onF x K = onF x' K := by rw [h]
@[go_sem] theorem ev_onF {a : Nat} {b : TypeId} {K : Nat → TypeId → Prop} : onF (some (a, b)) K = K a b := rfl
@[go_sem] theorem ev_fap {t : TypeId} {f r o : Nat} : vfieldAddr P g t (.c (.p r o)) f L = onF (fieldOf P t f) fun off ft => hasT P ft = true ∧ szT P ft ≠ 0 ∧ L (.c (.p r (o + off))) := by
  unfold vfieldAddr onF; cases fieldOf P t f <;> rfl
@[go_sem] theorem ev_fav {t : TypeId} {f : Nat} {y : Value} : vfieldAddr P g t (.c (.v y)) f L = onF (fieldOf P t f) fun off ft => hasT P ft = true ∧ szT P ft ≠ 0 ∧ (g = true → Value.isP y) ∧ L (.c (.v (.pointer ((Value.P y).map (·.add off))))) := by
  unfold vfieldAddr onF; cases fieldOf P t f <;> rfl
@[congr] theorem vfieldAddr_congr {t : TypeId} {x x' : SV} {f : Nat} (h : x = x') : vfieldAddr P g t x f L = vfieldAddr P g t x' f L := by rw [h]
def iteF (b : Bool) (x y : Prop) : Prop := if b = true then x else y
@[congr] theorem iteF_congr {b b' : Bool} {x y : Prop} (h : b = b') : iteF b x y = iteF b' x y := by rw [h]
@[go_sem] theorem ev_ift {x y : Prop} : iteF true x y = x := by simp [iteF]
@[go_sem] theorem ev_iff {x y : Prop} : iteF false x y = y := by simp [iteF]
@[congr] theorem vfield_congr {t : TypeId} {x x' : SV} {f : Nat} (h : x = x') : vfield P g t x f L = vfield P g t x' f L := by rw [h]
@[go_sem] theorem ev_field1 {t : TypeId} {f : Nat} {x : SV} : vfield P g t x f L = onF (fieldOf P t f) fun off ft => hasT P ft = true ∧ (g = true → isG x) ∧ iteF (aggT P ft) (L (.g (cutC off (szT P ft) x.cells))) ((g = true → off < x.cells.length) ∧ L (.c (x.cells.getD off (.v undef)))) := by
  unfold vfield onF iteF; cases fieldOf P t f <;> rfl
def onE (x : Option TypeId) (K : TypeId → Prop) (K' : Prop) : Prop :=
  match x with
  | some e => K e
  | none => K'
@[congr] theorem onE_congr {x x' : Option TypeId} {K : TypeId → Prop} {K' : Prop} (h : x = x') : onE x K K' = onE x' K K' := by rw [h]
@[go_sem] theorem ev_onE {e : TypeId} {K : TypeId → Prop} {K' : Prop} : onE (some e) K K' = K e := rfl
@[go_sem] theorem ev_onE0 {K : TypeId → Prop} {K' : Prop} : onE none K K' = K' := rfl
def onRow (b : Option PB) (K : Nat → Prop) : Prop :=
  match b with
  | some (.row _ _ n _) => K n
  | _ => False
@[congr] theorem onRow_congr {x x' : Option PB} {K : Nat → Prop} (h : x = x') : onRow x K = onRow x' K := by rw [h]
@[go_sem] theorem ev_onRow {e : TypeId} {sz n : Nat} {xs : List Value} {K : Nat → Prop} : onRow (some (.row e sz n xs)) K = K n := rfl
@[congr] theorem vindexAddr_congr {t : TypeId} {x x' i i' : SV} (h : x = x') (h2 : i = i') : vindexAddr P st g t x i L = vindexAddr P st g t x' i' L := by rw [h, h2]
@[go_sem] theorem ev_ixs {t : TypeId} {r : Nat} {i : SV} : vindexAddr P st g t (.c (.s r)) i L = ((g = true → ∃ k, Value.isI k i.val) ∧ onE (elemT P t) (fun e => hasT P e = true ∧ onRow (look r st.p) fun n => (g = true → 0 ≤ Value.I i.val ∧ Value.I i.val < n) ∧ L (.c (.p r ((Value.I i.val).toNat * szT P e)))) False) := by
  unfold vindexAddr onE onRow
  cases elemT P t with
  | none => cases arrT P t <;> simp
  | some e =>
    simp only
    cases look r st.p with
    | none => rfl
    | some b => cases b <;> rfl
@[go_sem] theorem ev_ixv {t : TypeId} {y : Value} {i : SV} : vindexAddr P st g t (.c (.v y)) i L = ((g = true → ∃ k, Value.isI k i.val) ∧ onE (elemT P t) (fun e => hasT P e = true ∧ (g = true → Value.isA y ∧ 0 ≤ Value.I i.val ∧ Value.I i.val < Value.L y ∧ (Value.A y).isSome = true) ∧ L (.c (.v (.pointer ((Value.A y).map (·.add ((Value.I i.val).toNat * szT P e)))))))
    (onF (arrT P t) fun n e => hasT P e = true ∧ (g = true → Value.isP y ∧ 0 ≤ Value.I i.val ∧ Value.I i.val < n) ∧ L (.c (.v (.pointer ((Value.P y).map (·.add ((Value.I i.val).toNat * szT P e)))))))) := by
  unfold vindexAddr onE onF
  cases elemT P t with
  | none => cases arrT P t <;> rfl
  | some e => rfl
@[go_sem] theorem ev_ixp {t : TypeId} {r o : Nat} {i : SV} : vindexAddr P st g t (.c (.p r o)) i L = ((g = true → ∃ k, Value.isI k i.val) ∧ onE (elemT P t) (fun _ => False)
    (onF (arrT P t) fun n e => hasT P e = true ∧ (g = true → 0 ≤ Value.I i.val ∧ Value.I i.val < n) ∧ L (.c (.p r (o + (Value.I i.val).toNat * szT P e))))) := by
  unfold vindexAddr onE onF
  cases elemT P t with
  | none => cases arrT P t <;> rfl
  | some e => simp
@[congr] theorem vlen_congr {t : TypeId} {x x' : SV} (h : x = x') : vlen P st g t x L = vlen P st g t x' L := by rw [h]
@[go_sem] theorem ev_lens {t : TypeId} {r : Nat} : vlen P st g t (.c (.s r)) L = onE (elemT P t) (fun _ => onRow (look r st.p) fun n => L (.c (.v (.int .i64 n)))) (vlen P st g t (.c (.s r)) L ∧ elemT P t = none) := by
  unfold vlen onE onRow
  cases elemT P t with
  | none => simp
  | some e =>
    simp only
    cases look r st.p with
    | none => rfl
    | some b => cases b <;> rfl
@[go_sem] theorem ev_lenv {t : TypeId} {y : Value} : vlen P st g t (.c (.v y)) L = onE (elemT P t) (fun _ => (g = true → Value.isA y) ∧ L (.c (.v (.int .i64 (Value.L y)))))
    (match arrT P t with
    | some (n, _) => L (.c (.v (.int .i64 n)))
    | none => strT P t = true ∧ (g = true → Value.isS y) ∧ L (.c (.v (.int .i64 (Value.S y).size)))) := by
  unfold vlen onE
  cases elemT P t <;> rfl

/-- Plain values. -/
@[go_sem] theorem ev_valv {x : Value} : SV.val (.c (.v x)) = x := rfl
@[go_sem] theorem ev_scval {x : Value} : SC.val (.v x) = x := rfl
@[go_sem] theorem ev_cellsg {cs : List SC} : SV.cells (.g cs) = cs := rfl
@[go_sem] theorem ev_cellsp {r o : Nat} : SV.cells (.c (.p r o)) = [.p r o] := rfl
@[go_sem] theorem ev_cellss {r : Nat} : SV.cells (.c (.s r)) = [.s r] := rfl
@[go_sem] theorem ev_cellsi {k : IntKind} {n : Int} : SV.cells (.c (.v (.int k n))) = [.v (.int k n)] := rfl
@[go_sem] theorem ev_cellsb {n : Bool} : SV.cells (.c (.v (.bool n))) = [.v (.bool n)] := rfl
@[go_sem] theorem ev_cellsS {n : ByteArray} : SV.cells (.c (.v (.string n))) = [.v (.string n)] := rfl
@[go_sem] theorem ev_cellsl {a : Option Addr} {n c : Nat} : SV.cells (.c (.v (.slice a n c))) = [.v (.slice a n c)] := rfl
@[go_sem] theorem ev_cellsP {a : Option Addr} : SV.cells (.c (.v (.pointer a))) = [.v (.pointer a)] := rfl
@[go_sem] theorem ev_cellsf {a : Go.Fn} {x y : Array Value} : SV.cells (.c (.v (.func a x y))) = [.v (.func a x y)] := rfl
@[go_sem] theorem ev_I {k : IntKind} {n : Int} : Value.I (.int k n) = n := rfl
@[go_sem] theorem ev_isI {k k' : IntKind} {n : Int} : Value.isI k (.int k' n) = (k' = k) := rfl
@[go_sem] theorem ev_isIx {k' : IntKind} {n : Int} : (∃ k, Value.isI k (.int k' n)) = True := eq_true ⟨k', rfl⟩
@[go_sem] theorem ev_B {n : Bool} : Value.B (.bool n) = n := rfl
@[go_sem] theorem ev_isB {n : Bool} : Value.isB (.bool n) = True := rfl
@[go_sem] theorem ev_S {n : ByteArray} : Value.S (.string n) = n := rfl
@[go_sem] theorem ev_isS {n : ByteArray} : Value.isS (.string n) = True := rfl
@[go_sem] theorem ev_P {a : Option Addr} : Value.P (.pointer a) = a := rfl
@[go_sem] theorem ev_isP {a : Option Addr} : Value.isP (.pointer a) = (a.isSome = true) := by cases a <;> simp [Value.isP]
@[go_sem] theorem ev_A {a : Option Addr} {n c : Nat} : Value.A (.slice a n c) = a := rfl
@[go_sem] theorem ev_L {a : Option Addr} {n c : Nat} : Value.L (.slice a n c) = n := rfl
@[go_sem] theorem ev_C {a : Option Addr} {n c : Nat} : Value.C (.slice a n c) = c := rfl
@[go_sem] theorem ev_isA {a : Option Addr} {n c : Nat} : Value.isA (.slice a n c) = True := rfl
@[go_sem] theorem ev_T {x : List Value} : Value.T (.tuple x.toArray) = x := rfl
@[go_sem] theorem ev_isT {n : Nat} {x : List Value} : Value.isT n (.tuple x.toArray) = (n < x.length) := by simp [Value.isT]
@[go_sem] theorem ev_isG {cs : List SC} : isG (.g cs) = True := rfl
@[go_sem] theorem ev_isNil0 : isNilS (.slice none 0 0) = true := rfl
@[go_sem] theorem ev_isNil1 {a : Addr} {n c : Nat} : isNilS (.slice (some a) n c) = false := rfl
@[go_sem] theorem ev_isFn {f : FuncId} {x y : Array Value} : isFn (.func (.func f) x y) = True := rfl
end
end Go.SL
