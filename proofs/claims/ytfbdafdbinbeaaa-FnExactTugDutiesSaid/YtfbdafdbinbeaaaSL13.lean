/- Plain theorems about the model: a symbolic state, its evaluation and its soundness. No condition; nothing of the program is named. -/
import Derived.Test.YtfbdafdbinbeaaaSL12
set_option linter.unusedVariables false
set_option linter.unusedSimpArgs false
namespace Go.SL
open Go Go.RowKit

section
variable {P : Program} {st : St} {g : Bool} {K : St → Prop} {L : SV → Prop}

@[congr] theorem vnil_congr {x x' : SV} (h : x = x') : vnil g x L = vnil g x' L := by rw [h]
@[go_sem] theorem ev_nilp {r o : Nat} : vnil g (.c (.p r o)) L = L (.c (.p r o)) := rfl
@[go_sem] theorem ev_nilv {y : Value} : vnil g (.c (.v y)) L = ((g = true → Value.isP y ∨ isFn y) ∧ L (.c (.v y))) := rfl

def onTD (d : Option TypeDesc) (K : TypeDesc → Prop) : Prop := K (d.getD .invalid)
@[congr] theorem vbin_congr {op : BinOp} {t : TypeId} {x x' y y' : SV} {K : Value → Prop} (h : x = x') (h' : y = y') : vbin P g op t x y K = vbin P g op t x' y' K := by rw [h, h']
@[congr] theorem vbinT_congr {op : BinOp} {t : TypeId} {x x' y y' : SV} {K : Value → Prop} {d d' : TypeDesc} (h : x = x') (h' : y = y') (h2 : d = d') : vbinT P g op t x y K d = vbinT P g op t x' y' K d' := by rw [h, h', h2]
@[go_sem] theorem ev_vbin {op : BinOp} {t : TypeId} {x y : SV} {K : Value → Prop} : vbin P g op t x y K = vbinT P g op t x y K ((P.underlying t).getD .invalid) := rfl
@[go_sem] theorem ev_getD {d d' : TypeDesc} : (some d).getD d' = d := rfl
@[congr] theorem intBin_congr {op : BinOp} {k : IntKind} {a a' b b' : Int} {K : Value → Prop} (h : a = a') (h' : b = b') : intBin g op k a b K = intBin g op k a' b' K := by rw [h, h']
section
variable {t : TypeId} {x y : SV} {K : Value → Prop} {k : IntKind}
@[go_sem] theorem ev_add : vbinT P g .add t x y K (.int k) = ((g = true → Value.isI k x.val ∧ Value.isI k y.val) ∧ K (.int k (k.wrap (Value.I x.val + Value.I y.val)))) := rfl
@[go_sem] theorem ev_sub : vbinT P g .sub t x y K (.int k) = ((g = true → Value.isI k x.val ∧ Value.isI k y.val) ∧ K (.int k (k.wrap (Value.I x.val - Value.I y.val)))) := rfl
@[go_sem] theorem ev_mul : vbinT P g .mul t x y K (.int k) = ((g = true → Value.isI k x.val ∧ Value.isI k y.val) ∧ K (.int k (k.wrap (Value.I x.val * Value.I y.val)))) := rfl
@[go_sem] theorem ev_quo : vbinT P g .quo t x y K (.int k) = ((g = true → Value.isI k x.val ∧ Value.isI k y.val) ∧ (g = true → Value.I y.val ≠ 0) ∧ K (.int k (k.wrap ((Value.I x.val).tdiv (Value.I y.val))))) := rfl
@[go_sem] theorem ev_rem : vbinT P g .rem t x y K (.int k) = ((g = true → Value.isI k x.val ∧ Value.isI k y.val) ∧ (g = true → Value.I y.val ≠ 0) ∧ K (.int k ((Value.I x.val).tmod (Value.I y.val)))) := rfl
@[go_sem] theorem ev_and : vbinT P g .and t x y K (.int k) = ((g = true → Value.isI k x.val ∧ Value.isI k y.val) ∧ K (.int k (vbits .and k (Value.I x.val) (Value.I y.val)))) := rfl
@[go_sem] theorem ev_or : vbinT P g .or t x y K (.int k) = ((g = true → Value.isI k x.val ∧ Value.isI k y.val) ∧ K (.int k (vbits .or k (Value.I x.val) (Value.I y.val)))) := rfl
@[go_sem] theorem ev_xor : vbinT P g .xor t x y K (.int k) = ((g = true → Value.isI k x.val ∧ Value.isI k y.val) ∧ K (.int k (vbits .xor k (Value.I x.val) (Value.I y.val)))) := rfl
@[go_sem] theorem ev_andNot : vbinT P g .andNot t x y K (.int k) = ((g = true → Value.isI k x.val ∧ Value.isI k y.val) ∧ K (.int k (vbits .andNot k (Value.I x.val) (Value.I y.val)))) := rfl
@[go_sem] theorem ev_shl : vbinT P g .shl t x y K (.int k) = ((g = true → Value.isI k x.val ∧ (∃ k', Value.isI k' y.val) ∧ 0 ≤ Value.I y.val) ∧ K (.int k (k.wrap (Value.I x.val * 2 ^ (min (Value.I y.val).toNat k.bits))))) := rfl
@[go_sem] theorem ev_shr : vbinT P g .shr t x y K (.int k) = ((g = true → Value.isI k x.val ∧ (∃ k', Value.isI k' y.val) ∧ 0 ≤ Value.I y.val) ∧ K (.int k ((Value.I x.val).fdiv (2 ^ (min (Value.I y.val).toNat k.bits))))) := rfl
@[go_sem] theorem ev_eqi : vbinT P g .eql t x y K (.int k) = ((g = true → Value.isI k x.val ∧ Value.isI k y.val) ∧ K (.bool (Value.I x.val == Value.I y.val))) := rfl
@[go_sem] theorem ev_nei : vbinT P g .neq t x y K (.int k) = ((g = true → Value.isI k x.val ∧ Value.isI k y.val) ∧ K (.bool (Value.I x.val != Value.I y.val))) := rfl
@[go_sem] theorem ev_lti : vbinT P g .lss t x y K (.int k) = ((g = true → Value.isI k x.val ∧ Value.isI k y.val) ∧ K (.bool (decide (Value.I x.val < Value.I y.val)))) := rfl
@[go_sem] theorem ev_lei : vbinT P g .leq t x y K (.int k) = ((g = true → Value.isI k x.val ∧ Value.isI k y.val) ∧ K (.bool (decide (Value.I x.val ≤ Value.I y.val)))) := rfl
@[go_sem] theorem ev_gti : vbinT P g .gtr t x y K (.int k) = ((g = true → Value.isI k x.val ∧ Value.isI k y.val) ∧ K (.bool (decide (Value.I y.val < Value.I x.val)))) := rfl
@[go_sem] theorem ev_gei : vbinT P g .geq t x y K (.int k) = ((g = true → Value.isI k x.val ∧ Value.isI k y.val) ∧ K (.bool (decide (Value.I y.val ≤ Value.I x.val)))) := rfl
@[go_sem] theorem ev_eqb : vbinT P g .eql t x y K .bool = ((g = true → Value.isB x.val ∧ Value.isB y.val) ∧ K (.bool (Value.B x.val == Value.B y.val))) := rfl
@[go_sem] theorem ev_neb : vbinT P g .neq t x y K .bool = ((g = true → Value.isB x.val ∧ Value.isB y.val) ∧ K (.bool (!(Value.B x.val == Value.B y.val)))) := rfl
@[go_sem] theorem ev_eqs : vbinT P g .eql t x y K .string = ((g = true → Value.isS x.val ∧ Value.isS y.val) ∧ K (.bool ((Value.S x.val).toList == (Value.S y.val).toList))) := rfl
@[go_sem] theorem ev_nes : vbinT P g .neq t x y K .string = ((g = true → Value.isS x.val ∧ Value.isS y.val) ∧ K (.bool (!((Value.S x.val).toList == (Value.S y.val).toList)))) := rfl
@[go_sem] theorem ev_adds : vbinT P g .add t x y K .string = ((g = true → Value.isS x.val ∧ Value.isS y.val) ∧ (g = true → (Value.S x.val).size + (Value.S y.val).size ≤ 9223372036854775807) ∧ K (.string (Value.S x.val ++ Value.S y.val))) := rfl
@[go_sem] theorem ev_eqst {fs : List Field} : vbinT P g .eql t x y K (.struct fs.toArray) = (P.stoodInHeld t = false ∧ P.eqGuardType P.depth t = false ∧ fs.length ≠ 1 ∧ (g = true → leafsOk P 0 fs (x.cells.map (·.val)) ∧ leafsOk P 0 fs (y.cells.map (·.val))) ∧ K (.bool (veqs (x.cells.map (·.val)) (y.cells.map (·.val))))) := rfl
@[go_sem] theorem ev_nest {fs : List Field} : vbinT P g .neq t x y K (.struct fs.toArray) = (P.stoodInHeld t = false ∧ P.eqGuardType P.depth t = false ∧ fs.length ≠ 1 ∧ (g = true → leafsOk P 0 fs (x.cells.map (·.val)) ∧ leafsOk P 0 fs (y.cells.map (·.val))) ∧ K (.bool (!veqs (x.cells.map (·.val)) (y.cells.map (·.val))))) := rfl
end
@[go_sem] theorem ev_veqs0 : veqs [] [] = true := rfl
@[go_sem] theorem ev_veqsS {a b : Value} {as bs : List Value} : veqs (a :: as) (b :: bs) = (veq a b && veqs as bs) := rfl
@[go_sem] theorem ev_veqi {k k' : IntKind} {a b : Int} : veq (.int k a) (.int k' b) = (a == b) := rfl
@[go_sem] theorem ev_veqb {a b : Bool} : veq (.bool a) (.bool b) = (a == b) := rfl
@[go_sem] theorem ev_veqs {a b : ByteArray} : veq (.string a) (.string b) = (a.toList == b.toList) := rfl
@[go_sem] theorem ev_leafs0 {i : Nat} : leafsOk P i [] [] = True := rfl
@[go_sem] theorem ev_leafsS {i : Nat} {n : String} {ty : TypeId} {off : Nat} {em : Bool} {tag pp : String} {bo : Nat} {fs : List Field} {v : Value} {vs : List Value} : leafsOk P i (⟨n, ty, off, em, tag, pp, bo⟩ :: fs) (v :: vs) = (off = i ∧ n ≠ "_" ∧ leafOk P ty v ∧ leafsOk P (i + 1) fs vs) := rfl
@[go_sem] theorem ev_leafi {t : TypeId} {k k' : IntKind} {n : Int} (h : P.underlying t = some (.int k')) : leafOk P t (.int k n) = (k = k') := by simp [leafOk, h, Value.isI]
@[go_sem] theorem ev_leafb {t : TypeId} {n : Bool} (h : P.underlying t = some .bool) : leafOk P t (.bool n) = True := by simp [leafOk, h, Value.isB]
@[go_sem] theorem ev_leafs {t : TypeId} {n : ByteArray} (h : P.underlying t = some .string) : leafOk P t (.string n) = True := by simp [leafOk, h, Value.isS]

@[congr] theorem vun_congr {op : UnOp} {x x' : SV} (h : x = x') : vun g op x L = vun g op x' L := by rw [h]
@[go_sem] theorem ev_not {x : SV} : vun g .not x L = ((g = true → Value.isB x.val) ∧ L (.c (.v (.bool (!Value.B x.val))))) := rfl
@[go_sem] theorem ev_neg {x : SV} : vun g .neg x L = ((g = true → Value.isI .i64 x.val) ∧ L (.c (.v (.int .i64 (IntKind.i64.wrap (0 - Value.I x.val)))))) := rfl
def onK (x : Option IntKind) (K : IntKind → Prop) : Prop :=
  match x with
  | some k => K k
  | none => False
@[congr] theorem onK_congr {x x' : Option IntKind} {K : IntKind → Prop} (h : x = x') : onK x K = onK x' K := by rw [h]
@[go_sem] theorem ev_onK {k : IntKind} {K : IntKind → Prop} : onK (some k) K = K k := rfl
@[congr] theorem vconv_congr {s d : TypeId} {x x' : SV} (h : x = x') : vconv P g s d x L = vconv P g s d x' L := by rw [h]
@[go_sem] theorem ev_conv {s d : TypeId} {x : SV} : vconv P g s d x L = onK (intT P d) fun k => hasT P s = true ∧ (g = true → ∃ k', Value.isI k' x.val) ∧ L (.c (.v (.int k (k.wrap (Value.I x.val))))) := rfl
@[congr] theorem vextract_congr {x x' : SV} {i : Nat} (h : x = x') : vextract g x i L = vextract g x' i L := by rw [h]
@[go_sem] theorem ev_extr {x : SV} {i : Nat} : vextract g x i L = ((g = true → Value.isT i x.val) ∧ L (.of ((Value.T x.val).getD i undef))) := rfl
@[congr] theorem vfold_congr {f : Int → Int → Int} {t : TypeId} {x x' : List SV} (h : x = x') : vfold P g f t x L = vfold P g f t x' L := by rw [h]
@[go_sem] theorem ev_fold {f : Int → Int → Int} {t : TypeId} {x : SV} {xs : List SV} : vfold P g f t (x :: xs) L = onK (intT P t) fun k => (g = true → Value.isI k x.val ∧ allI k xs) ∧ L (.c (.v (.int k (foldI f (Value.I x.val) xs)))) := by
  unfold vfold onK; cases intT P t <;> rfl
@[go_sem] theorem ev_foldI0 {f : Int → Int → Int} {a : Int} : foldI f a [] = a := rfl
@[go_sem] theorem ev_foldIS {f : Int → Int → Int} {a : Int} {x : SV} {xs : List SV} : foldI f a (x :: xs) = foldI f (f a (Value.I x.val)) xs := rfl
@[go_sem] theorem ev_allI0 {k : IntKind} : allI k [] = True := rfl
@[go_sem] theorem ev_allIS {k : IntKind} {x : SV} {xs : List SV} : allI k (x :: xs) = (Value.isI k x.val ∧ allI k xs) := rfl

/-- Slices. -/
@[congr] theorem vslice_congr {t : TypeId} {x x' : SV} {lo lo' hi hi' : Option SV} (h : x = x') (h1 : lo = lo') (h2 : hi = hi') : vslice P g t x lo hi L = vslice P g t x' lo' hi' L := by rw [h, h1, h2]
def sliceV (h : Prop) (lo hi : Int) (y : Value) (sz : Nat) (L : SV → Prop) : Prop :=
  h ∧ L (.c (.v (.slice (if Value.C y = lo.toNat then Value.A y else (Value.A y).map (·.add (lo.toNat * sz))) (hi.toNat - lo.toNat) (Value.C y - lo.toNat))))
@[congr] theorem sliceV_congr {h h' : Prop} {lo lo' hi hi' : Int} {y y' : Value} {sz sz' : Nat} (e0 : h = h') (e1 : lo = lo') (e2 : hi = hi') (e3 : y = y') (e4 : sz = sz') : sliceV h lo hi y sz L = sliceV h' lo' hi' y' sz' L := by rw [e0, e1, e2, e3, e4]
@[go_sem] theorem ev_sliceV {h : Prop} {lo hi : Int} {y : Value} {sz : Nat} : sliceV h lo hi y sz L = (h ∧ L (.c (.v (.slice (if Value.C y = lo.toNat then Value.A y else (Value.A y).map (·.add (lo.toNat * sz))) (hi.toNat - lo.toNat) (Value.C y - lo.toNat))))) := rfl
def sliceS (h : Prop) (lo hi : Int) (y : Value) (L : SV → Prop) : Prop := h ∧ L (.c (.v (.string ((Value.S y).extract lo.toNat hi.toNat))))
@[congr] theorem sliceS_congr {h h' : Prop} {lo lo' hi hi' : Int} {y y' : Value} (e0 : h = h') (e1 : lo = lo') (e2 : hi = hi') (e3 : y = y') : sliceS h lo hi y L = sliceS h' lo' hi' y' L := by rw [e0, e1, e2, e3]
@[go_sem] theorem ev_sliceS {h : Prop} {lo hi : Int} {y : Value} : sliceS h lo hi y L = (h ∧ L (.c (.v (.string ((Value.S y).extract lo.toNat hi.toNat))))) := rfl
@[go_sem] theorem ev_slice00 {t : TypeId} {y : Value} : vslice P g t (.c (.v y)) none none L = onE (elemT P t) (fun e => hasT P e = true ∧ sliceV (g = true → Value.isA y) 0 (Value.L y) y (szT P e) L) (strT P t = true ∧ sliceS (g = true → Value.isS y) 0 (Value.S y).size y L) := by
  unfold vslice onE sliceV sliceS
  cases elemT P t <;> simp <;> grind
@[go_sem] theorem ev_slice01 {t : TypeId} {y : Value} {u : SV} : vslice P g t (.c (.v y)) none (some u) L = onE (elemT P t) (fun e => hasT P e = true ∧ sliceV (g = true → Value.isA y ∧ (∃ k, Value.isI k u.val) ∧ 0 ≤ Value.I u.val ∧ Value.I u.val ≤ Value.C y) 0 (Value.I u.val) y (szT P e) L)
    (strT P t = true ∧ sliceS (g = true → Value.isS y ∧ (∃ k, Value.isI k u.val) ∧ 0 ≤ Value.I u.val ∧ Value.I u.val ≤ (Value.S y).size) 0 (Value.I u.val) y L) := by
  unfold vslice onE sliceV sliceS
  cases elemT P t <;> simp
@[go_sem] theorem ev_slice10 {t : TypeId} {y : Value} {l : SV} : vslice P g t (.c (.v y)) (some l) none L = onE (elemT P t) (fun e => hasT P e = true ∧ sliceV (g = true → Value.isA y ∧ (∃ k, Value.isI k l.val) ∧ 0 ≤ Value.I l.val ∧ Value.I l.val ≤ Value.L y) (Value.I l.val) (Value.L y) y (szT P e) L)
    (strT P t = true ∧ sliceS (g = true → Value.isS y ∧ (∃ k, Value.isI k l.val) ∧ 0 ≤ Value.I l.val ∧ Value.I l.val ≤ (Value.S y).size) (Value.I l.val) (Value.S y).size y L) := by
  unfold vslice onE sliceV sliceS
  cases elemT P t <;> simp
@[go_sem] theorem ev_slice11 {t : TypeId} {y : Value} {l u : SV} : vslice P g t (.c (.v y)) (some l) (some u) L = onE (elemT P t) (fun e => hasT P e = true ∧ sliceV (g = true → Value.isA y ∧ (∃ k, Value.isI k l.val) ∧ (∃ k, Value.isI k u.val) ∧ 0 ≤ Value.I l.val ∧ Value.I l.val ≤ Value.I u.val ∧ Value.I u.val ≤ Value.C y) (Value.I l.val) (Value.I u.val) y (szT P e) L)
    (strT P t = true ∧ sliceS (g = true → Value.isS y ∧ (∃ k, Value.isI k l.val) ∧ (∃ k, Value.isI k u.val) ∧ 0 ≤ Value.I l.val ∧ Value.I l.val ≤ Value.I u.val ∧ Value.I u.val ≤ (Value.S y).size) (Value.I l.val) (Value.I u.val) y L) := by
  unfold vslice onE sliceV sliceS
  cases elemT P t <;> simp

/-- Stores. -/
@[congr] theorem vstore_congr {p p' : List (Nat × PB)} {t : TypeId} {a a' x x' : SV} {M : List (Nat × PB) → Prop} (h : p = p') (h1 : a = a') (h2 : x = x') : vstore P p t a x M = vstore P p' t a' x' M := by rw [h, h1, h2]
@[congr] theorem vstoreP_congr {p p' : List (Nat × PB)} {t : TypeId} {r r' o o' : Nat} {b b' : Option PB} {x x' : SV} {M : List (Nat × PB) → Prop} (h : p = p') (h1 : r = r') (h2 : o = o') (h3 : b = b') (h4 : x = x') : vstoreP P p t r o b x M = vstoreP P p' t r' o' b' x' M := by rw [h, h1, h2, h3, h4]
@[go_sem] theorem ev_vstore {p : List (Nat × PB)} {t : TypeId} {r o : Nat} {x : SV} {M : List (Nat × PB) → Prop} : vstore P p t (.c (.p r o)) x M = (hasT P t = true ∧ vstoreP P p t r o (look r p) x M) := rfl
@[go_sem] theorem ev_storeB {p : List (Nat × PB)} {t ty : TypeId} {r o : Nat} {cs : List SC} {x : SV} {M : List (Nat × PB) → Prop} : vstoreP P p t r o (some (.box ty cs)) x M = (x.cells.length = szT P t ∧ o + szT P t ≤ cs.length ∧ (x.cells.all (·.okc p)) = true ∧ M (setP r (.box ty (spliceC o x.cells cs)) p)) := rfl
@[go_sem] theorem ev_storeR {p : List (Nat × PB)} {t e : TypeId} {r o sz n : Nat} {xs : List Value} {x : SV} {M : List (Nat × PB) → Prop} : vstoreP P p t r o (some (.row e sz n xs)) x M = (x.cells.length = szT P t ∧ o + szT P t ≤ xs.length ∧ (x.cells.all fun c => plainC c && c.val.oneCell') = true ∧ M (setP r (.row e sz n (spliceC o (x.cells.map (·.val)) xs)) p)) := rfl
@[go_sem] theorem ev_setP0 {r : Nat} {b b' : PB} {l : List (Nat × PB)} : setP r b ((r, b') :: l) = (r, b) :: l := by simp [setP]
@[go_sem] theorem ev_setPS {r k : Nat} {b b' : PB} {l : List (Nat × PB)} (h : (k == r) = false) : setP r b ((k, b') :: l) = (k, b') :: setP r b l := by
  have : k ≠ r := by simpa using h
  simp [setP, this]
@[go_sem] theorem ev_dropP0 {r : Nat} : dropP r [] = [] := rfl
@[go_sem] theorem ev_dropP1 {r : Nat} {b' : PB} {l : List (Nat × PB)} : dropP r ((r, b') :: l) = dropP r l := by simp [dropP]
@[go_sem] theorem ev_dropPS {r k : Nat} {b' : PB} {l : List (Nat × PB)} (h : (k == r) = false) : dropP r ((k, b') :: l) = (k, b') :: dropP r l := by
  have : k ≠ r := by simpa using h
  simp [dropP, this]
@[go_sem] theorem ev_okv {p : List (Nat × PB)} {x : Value} : SC.okc p (.v x) = x.oneCell' := rfl
@[go_sem] theorem ev_okp {p : List (Nat × PB)} {r o : Nat} : SC.okc p (.p r o) = true := rfl
def isRow (b : Option PB) : Bool :=
  match b with
  | some (.row ..) => true
  | _ => false
@[go_sem] theorem ev_oks {p : List (Nat × PB)} {r : Nat} : SC.okc p (.s r) = isRow (look r p) := rfl
@[go_sem] theorem ev_isRow {e : TypeId} {sz n : Nat} {xs : List Value} : isRow (some (.row e sz n xs)) = true := rfl
@[go_sem] theorem ev_oneI {k : IntKind} {n : Int} : (Value.int k n).oneCell' = true := rfl
@[go_sem] theorem ev_oneB {n : Bool} : (Value.bool n).oneCell' = true := rfl
@[go_sem] theorem ev_oneS {n : ByteArray} : (Value.string n).oneCell' = true := rfl
@[go_sem] theorem ev_oneP {n : Option Addr} : (Value.pointer n).oneCell' = true := rfl
@[go_sem] theorem ev_oneL {a : Option Addr} {n c : Nat} : (Value.slice a n c).oneCell' = true := rfl
@[go_sem] theorem ev_oneF {f : Go.Fn} {x y : Array Value} : (Value.func f x y).oneCell' = true := rfl
@[go_sem] theorem ev_plv {x : Value} : plainC (.v x) = true := rfl
@[go_sem] theorem ev_plp {r o : Nat} : plainC (.p r o) = false := rfl
@[go_sem] theorem ev_pls {r : Nat} : plainC (.s r) = false := rfl
@[go_sem] theorem ev_splc {x : SC} : SV.plain (.c x) = plainC x := rfl
@[go_sem] theorem ev_splg {cs : List SC} : SV.plain (.g cs) = cs.all plainC := rfl
@[go_sem] theorem ev_pvc {x : SC} : SV.pv (.c x) = x.val := rfl
@[go_sem] theorem ev_pvg {cs : List SC} : SV.pv (.g cs) = .agg (cs.map (·.val)).toArray := rfl
@[go_sem] theorem ev_cutC {o n : Nat} {cs : List SC} : cutC o n cs = (cs.drop o).take n := rfl
@[go_sem] theorem ev_spl {α : Type} {o : Nat} {new cs : List α} : spliceC o new cs = cs.take o ++ (new ++ cs.drop (o + new.length)) := rfl

/-- Memory. -/
def onZ (z : Option (List Value)) (K : List Value → Prop) : Prop :=
  match z with
  | some z => K z
  | none => False
@[congr] theorem onZ_congr {z z' : Option (List Value)} {K : List Value → Prop} (h : z = z') : onZ z K = onZ z' K := by rw [h]
@[go_sem] theorem ev_onZ {z : List Value} {K : List Value → Prop} : onZ (some z) K = K z := rfl
@[go_sem] theorem ev_zeroOn {t : TypeId} {K : List Value → Prop} : zeroOn P t K = onZ (zeroT P t) K := rfl
@[go_sem] theorem ev_elemOn {t : TypeId} {K : TypeId → Prop} : elemOn P t K = onE (elemT P t) (fun e => hasT P e = true ∧ K e) False := by
  unfold elemOn onE; cases elemT P t <;> rfl
@[go_sem] theorem ev_parts0 {sz i : Nat} : partsS sz i [] [] = True := rfl
@[go_sem] theorem ev_partsS {sz i j : Nat} {js : List Nat} {x : SV} {xs : List SV} : partsS sz i (j :: js) (x :: xs) = (j = i ∧ x.cells.length = sz ∧ x.plain = true ∧ partsS sz (i + 1) js xs) := rfl
@[congr] theorem vappendA_congr {st st' : St} {t : TypeId} {s s' x x' : SV} {M : TypeId → Nat → Nat → List Value → List (Nat × PB) → Prop} (h : st = st') (h1 : s = s') (h2 : x = x') : vappendA P st t s x M = vappendA P st' t s' x' M := by rw [h, h1, h2]
@[congr] theorem vappend_congr {st st' : St} {t : TypeId} {s s' x x' : SV} {M : TypeId → Nat → Nat → List Value → List (Nat × PB) → Prop} (h : st = st') (h1 : s = s') (h2 : x = x') : vappend P st t s x M = vappend P st' t s' x' M := by rw [h, h1, h2]
@[congr] theorem vappendF_congr {st st' : St} {t : TypeId} {s s' : Value} {x x' : SV} {M : TypeId → Nat → Nat → List Value → Prop} (h : st = st') (h1 : s = s') (h2 : x = x') : vappendF P st t s x M = vappendF P st' t s' x' M := by rw [h, h1, h2]
@[congr] theorem vsrc_congr {st st' : St} {sz sz' : Nat} {x x' : SV} {M : Nat → List Value → Prop} (h : st = st') (h1 : sz = sz') (h2 : x = x') : vsrc st sz x M = vsrc st' sz' x' M := by rw [h, h1, h2]
@[congr] theorem vdst_congr {st st' : St} {e : TypeId} {sz sz' : Nat} {x x' : SV} {M : Nat → List Value → List (Nat × PB) → Prop} (h : st = st') (h1 : sz = sz') (h2 : x = x') : vdst st e sz x M = vdst st' e sz' x' M := by rw [h, h1, h2]
@[go_sem] theorem ev_appS {t : TypeId} {r : Nat} {x : SV} {M : TypeId → Nat → Nat → List Value → List (Nat × PB) → Prop} : vappendA P st t (.c (.s r)) x M = vappend P st t (.c (.s r)) x M := rfl
@[go_sem] theorem ev_appN {t : TypeId} {x : SV} {M : TypeId → Nat → Nat → List Value → List (Nat × PB) → Prop} : vappendA P st t (.c (.v (.slice none 0 0))) x M = vappend P st t (.c (.v (.slice none 0 0))) x M := by simp [vappendA, isNilS]
@[go_sem] theorem ev_appF {t : TypeId} {x : SV} {a : Addr} {n c : Nat} {M : TypeId → Nat → Nat → List Value → List (Nat × PB) → Prop} : vappendA P st t (.c (.v (.slice (some a) n c))) x M = vappendF P st t (.slice (some a) n c) x fun e sz n xs => M e sz n xs st.p := by simp [vappendA, isNilS]
@[go_sem] theorem ev_app {t : TypeId} {s x : SV} {M : TypeId → Nat → Nat → List Value → List (Nat × PB) → Prop} : vappend P st t s x M = elemOn P t fun e => zeroOn P e fun z => z.length = szT P e ∧ 0 < szT P e ∧
    vsrc st (szT P e) x fun m ys => vdst st e (szT P e) s fun n xs p => (∀ u ∈ ys, u.oneCell' = true) ∧ n + m ≤ maxLen ∧ (n + m) * P.bytesOf e ≤ 140737488355328 ∧ M e (szT P e) (n + m) (xs ++ ys) p := rfl
@[go_sem] theorem ev_appFF {t : TypeId} {y : Value} {x : SV} {M : TypeId → Nat → Nat → List Value → Prop} : vappendF P st t y x M = elemOn P t fun e => zeroOn P e fun z => z.length = szT P e ∧ 0 < szT P e ∧ Value.isA y ∧ Value.C y = Value.L y ∧ (Value.A y).isSome = true ∧ (st.h.ldL y (szT P e)).isSome = true ∧
    vsrc st (szT P e) x fun m ys => 0 < m ∧ (∀ u ∈ ys, u.oneCell' = true) ∧ Value.L y + m ≤ maxLen ∧ (Value.L y + m) * P.bytesOf e ≤ 140737488355328 ∧ M e (szT P e) (Value.L y + m) ((st.h.ldL y (szT P e)).getD [] ++ ys) := rfl
@[go_sem] theorem ev_srcv {sz : Nat} {y : Value} {M : Nat → List Value → Prop} : vsrc st sz (.c (.v y)) M = (Value.isA y ∧ (st.h.ldL y sz).isSome = true ∧ M (Value.L y) ((st.h.ldL y sz).getD [])) := rfl
def onR (b : Option PB) (K : TypeId → Nat → Nat → List Value → Prop) : Prop :=
  match b with
  | some (.row e sz n xs) => K e sz n xs
  | _ => False
@[congr] theorem onR_congr {x x' : Option PB} {K : TypeId → Nat → Nat → List Value → Prop} (h : x = x') : onR x K = onR x' K := by rw [h]
@[go_sem] theorem ev_onR {e : TypeId} {sz n : Nat} {xs : List Value} {K : TypeId → Nat → Nat → List Value → Prop} : onR (some (.row e sz n xs)) K = K e sz n xs := rfl
@[go_sem] theorem ev_srcs {sz r : Nat} {M : Nat → List Value → Prop} : vsrc st sz (.c (.s r)) M = onR (look r st.p) fun _ sz' m ys => sz' = sz ∧ M m ys := by
  unfold vsrc onR
  simp only
  cases look r st.p with
  | none => rfl
  | some b => cases b <;> rfl
@[go_sem] theorem ev_dsts {e : TypeId} {sz r : Nat} {M : Nat → List Value → List (Nat × PB) → Prop} : vdst st e sz (.c (.s r)) M = onR (look r st.p) fun e' sz' n xs => e' = e ∧ sz' = sz ∧ M n xs (dropP r st.p) := by
  unfold vdst onR
  simp only
  cases look r st.p with
  | none => rfl
  | some b => cases b <;> rfl
@[go_sem] theorem ev_dstn {e : TypeId} {sz : Nat} {M : Nat → List Value → List (Nat × PB) → Prop} : vdst st e sz (.c (.v (.slice none 0 0))) M = M 0 [] st.p := rfl
@[go_sem] theorem ev_ldD {h : Hp} {q : Option Addr} {n : Nat} : h.ldD q n = (h.lds q n).getD [] := rfl
@[go_sem] theorem ev_ldL0 {h : Hp} {a : Option Addr} {c sz : Nat} : h.ldL (.slice a 0 c) sz = some [] := by simp [Hp.ldL, Value.L]
theorem cellsAt_new {h : Hp} {b : Nat} {cs : List Value} {e : TypeId} {n : Nat} (hn : n = cs.length) : (h.ins b (.cells cs.toArray e (0, 0))).cellsAt ⟨b, 0, none⟩ 0 n = some cs := by
  subst hn
  refine cellsAt_mk rfl fun j v hj => ?_
  rw [add_mk]
  simp [Hp.cell, Hp.ins, hj]
@[go_sem] theorem ev_ldsNew {h : Hp} {b : Nat} {cs : List Value} {e : TypeId} {n : Nat} (hn : (n == cs.length) = true) : (h.ins b (.cells cs.toArray e (0, 0))).lds (some ⟨b, 0, none⟩) n = some cs := by
  exact cellsAt_new (by simpa using hn)
@[go_sem] theorem ev_ldLNew {h : Hp} {b : Nat} {cs : List Value} {e : TypeId} {n c sz : Nat} (hn : (n * sz == cs.length) = true) : (h.ins b (.cells cs.toArray e (0, 0))).ldL (.slice (some ⟨b, 0, none⟩) n c) sz = some cs := by
  have hn : n * sz = cs.length := by simpa using hn
  unfold Hp.ldL
  split
  · rename_i h0
    have : n = 0 := h0
    subst this
    have : cs = [] := List.eq_nil_of_length_eq_zero (by omega)
    rw [this]
  · exact cellsAt_new hn
@[congr] theorem vmake_congr {st st' : St} {t : TypeId} {l c : Operand} {M : TypeId → Nat → Nat → List Value → Prop} (h : st = st') : vmake P st t l c M = vmake P st' t l c M := by rw [h]
@[go_sem] theorem ev_make {t : TypeId} {l c : Operand} {M : TypeId → Nat → Nat → List Value → Prop} : vmake P st t l c M = elemOn P t fun e => zeroOn P e fun z => z.length = szT P e ∧ getO st true l fun vl => getO st true c fun vc =>
    (∃ k, Value.isI k vl.val) ∧ (∃ k, Value.isI k vc.val) ∧ 0 ≤ Value.I vc.val ∧ Value.I vc.val ≤ maxLen ∧ P.bytesOf e * (Value.I vc.val).toNat ≤ 140737488355328 ∧
    iteF (isZero l) (M e (szT P e) 0 []) (Value.I vl.val = Value.I vc.val ∧ M e (szT P e) (Value.I vc.val).toNat (madeCells z.toArray ((Value.I vc.val).toNat * szT P e)).toList) := rfl
@[go_sem] theorem ev_isz0 {k : IntKind} : isZero (.const (.int k 0)) = true := rfl
@[go_sem] theorem ev_iszt {t : Tmp} : isZero (.tmp t) = false := rfl

/-- Building. -/
@[congr] theorem vbuild_congr {t : TypeId} {ps ps' : List (Nat × SV)} (h : ps = ps') : vbuild P t ps L = vbuild P t ps' L := by rw [h]
@[go_sem] theorem ev_vbuild {t : TypeId} {ps : List (Nat × SV)} : vbuild P t ps L = (partsOk P t = true ∧ hasT P t = true ∧ onZ (zeroT P t) fun z => vfill P t ps (z.map .v) fun cs => L (.g cs)) := by
  unfold vbuild onZ; cases zeroT P t <;> rfl
def onNN (x : Option (Nat × Nat)) (K : Nat → Nat → Prop) : Prop :=
  match x with
  | some (a, b) => K a b
  | none => False
@[congr] theorem onNN_congr {x x' : Option (Nat × Nat)} {K : Nat → Nat → Prop} (h : x = x') : onNN x K = onNN x' K := by rw [h]
@[go_sem] theorem ev_onNN {a b : Nat} {K : Nat → Nat → Prop} : onNN (some (a, b)) K = K a b := rfl
@[congr] theorem vfill_congr {t : TypeId} {ps ps' : List (Nat × SV)} {cs cs' : List SC} {M : List SC → Prop} (h : ps = ps') (h1 : cs = cs') : vfill P t ps cs M = vfill P t ps' cs' M := by rw [h, h1]
@[go_sem] theorem ev_fill0 {t : TypeId} {cs : List SC} {M : List SC → Prop} : vfill P t [] cs M = M cs := rfl
def notS : SV → Bool
  | .c (.s _) => false
  | _ => true
@[go_sem] theorem ev_notSg {cs : List SC} : notS (.g cs) = true := rfl
@[go_sem] theorem ev_notSv {y : Value} : notS (.c (.v y)) = true := rfl
@[go_sem] theorem ev_notSp {r o : Nat} : notS (.c (.p r o)) = true := rfl
theorem notS_iff {x : SV} : (∀ r, x ≠ .c (.s r)) = (notS x = true) := by
  apply propext
  constructor
  · intro h
    unfold notS
    split
    · rename_i r; exact (h r rfl).elim
    · rfl
  · rintro h r rfl
    cases h
@[go_sem] theorem ev_fillS {t : TypeId} {i : Nat} {x : SV} {l : List (Nat × SV)} {cs : List SC} {M : List SC → Prop} : vfill P t ((i, x) :: l) cs M = onNN (partT P t i) fun off size => x.cells.length = size ∧ off + size ≤ cs.length ∧ notS x = true ∧ vfill P t l (spliceC off x.cells cs) M := by
  rw [← notS_iff]
  conv => lhs; unfold vfill
  unfold onNN
  cases partT P t i <;> rfl

/-- Calls. -/
@[congr] theorem vcall_congr {st st' : St} {vf vf' : SV} {vs vs' : List SV} {M : Value → Hp → Prop} (h : st = st') (h1 : vf = vf') (h2 : vs = vs') : vcall P st g vf vs M = vcall P st' g vf' vs' M := by rw [h, h1, h2]
@[congr] theorem vfn_congr {st : St} {f : FuncId} {xs xs' : List Value} {M : Value → Hp → Prop} (h1 : xs = xs') : vfn P st g f xs M = vfn P st g f xs' M := by rw [h1]
@[go_sem] theorem ev_vcall {f : FuncId} {fs cs : List Value} {vs : List SV} {M : Value → Hp → Prop} : vcall P st g (.c (.v (.func (.func f) fs.toArray cs.toArray))) vs M = ((vs.all (·.plain)) = true ∧ vfn P st g f (fs ++ (vs.map (·.pv) ++ cs)) M) := rfl
theorem vfn_use {f : FuncId} {xs : List Value} {M : Value → Hp → Prop} {R : Value → Hp → Prop} (h : Ct P f xs st.h R) (hk : ∀ v h', st.h.le h' → R v h' → M v h') : vfn P st true f xs M := by
  unfold vfn
  exact ⟨R, fun _ => h, .inl ⟨rfl, hk⟩⟩
/-- A call that only reckons. -/
theorem vfn_val {f : FuncId} {xs : List Value} {M : Value → Hp → Prop} {V : Value} (h : g = true → Ct P f xs st.h fun v h' => v = V ∧ h' = st.h) (hk : M V st.h) : vfn P st g f xs M := by
  unfold vfn
  exact ⟨_, h, .inr ⟨V, fun _ _ x => x, hk⟩⟩

/-- Results. -/
@[congr] theorem resAll_congr {st st' : St} {rs : List ResultVar} {M : List Value → Prop} (h : st = st') : resAll P st rs M = resAll P st' rs M := by rw [h]
@[congr] theorem resOne_congr {st st' : St} {r : ResultVar} {M : Value → Prop} (h : st = st') : resOne P st r M = resOne P st' r M := by rw [h]
@[go_sem] theorem ev_res0 {M : List Value → Prop} : resAll P st [] M = M [] := rfl
@[go_sem] theorem ev_resS {r : ResultVar} {rs : List ResultVar} {M : List Value → Prop} : resAll P st (r :: rs) M = resOne P st r fun v => resAll P st rs fun vs => M (v :: vs) := rfl
@[go_sem] theorem ev_rest {t : Tmp} {M : Value → Prop} : resOne P st (.tmp t) M = onL (look t st.e) true fun sv => sv.plain = true ∧ M sv.pv := by
  unfold resOne onL onD
  simp only
  cases look t st.e with
  | none => rfl
  | some x => obtain ⟨c, sv⟩ := x; simp
@[go_sem] theorem ev_resc {t : Tmp} {ty : TypeId} {M : Value → Prop} : resOne P st (.cell t ty) M = onL (look t st.e) true fun sv => vload P st true ty sv fun v => v.plain = true ∧ M v.pv := by
  unfold resOne onL
  simp only
  cases look t st.e with
  | none => rfl
  | some x => obtain ⟨c, sv⟩ := x; simp
@[go_sem] theorem ev_resV1 {v : Value} : resVal [v] = v := rfl
@[go_sem] theorem ev_resV0 : resVal [] = .tuple #[] := rfl
@[go_sem] theorem ev_resV2 {v u : Value} {l : List Value} : resVal (v :: u :: l) = .tuple (v :: u :: l).toArray := rfl
@[go_sem] theorem ev_args0 {i : Nat} : envArgs i [] = [] := rfl
@[go_sem] theorem ev_argsS {i : Nat} {v : Value} {vs : List Value} : envArgs i (v :: vs) = (i, true, .of v) :: envArgs (i + 1) vs := rfl

/-- Weakening. -/
@[go_sem] theorem ev_le {e e' : Env} {p p' : List (Nat × PB)} {h h' : Hp} {n n' : Nat} : St.le ⟨e, p, h, n⟩ ⟨e', p', h', n'⟩ = (leE e e' ∧ leP p p' ∧ h' = h ∧ (envLt n' e' && pbLt n' p') = true) := rfl
@[go_sem] theorem ev_leE0 {e : Env} : leE e [] = True := rfl
@[go_sem] theorem ev_leES {e l : Env} {t : Nat} {y : Bool × SV} : leE e ((t, y) :: l) = (look t e = some y ∧ leE e l) := rfl
@[go_sem] theorem ev_leP0 {p : List (Nat × PB)} : leP p [] = True := rfl
@[go_sem] theorem ev_lePS {p l : List (Nat × PB)} {r : Nat} {b : PB} : leP p ((r, b) :: l) = (look r p = some b ∧ leP p l) := rfl
@[go_sem] theorem ev_envLt0 {n : Nat} : envLt n [] = true := rfl
@[go_sem] theorem ev_envLtS {n t : Nat} {c : Bool} {sv : SV} {l : Env} : envLt n ((t, c, sv) :: l) = (sv.lt n && envLt n l) := rfl
@[go_sem] theorem ev_pbLt0 {n : Nat} : pbLt n [] = true := rfl
@[go_sem] theorem ev_pbLtS {n r : Nat} {b : PB} {l : List (Nat × PB)} : pbLt n ((r, b) :: l) = (decide (r < n) && b.lt n && pbLt n l) := rfl
@[go_sem] theorem ev_svltc {n : Nat} {x : SC} : SV.lt n (.c x) = x.lt n := rfl
@[go_sem] theorem ev_svltg {n : Nat} {cs : List SC} : SV.lt n (.g cs) = cs.all (·.lt n) := rfl
@[go_sem] theorem ev_scltv {n : Nat} {x : Value} : SC.lt n (.v x) = true := rfl
@[go_sem] theorem ev_scltp {n r o : Nat} : SC.lt n (.p r o) = decide (r < n) := rfl
@[go_sem] theorem ev_sclts {n r : Nat} : SC.lt n (.s r) = decide (r < n) := rfl
@[go_sem] theorem ev_pblt1 {n : Nat} {ty : TypeId} {cs : List SC} : PB.lt n (.box ty cs) = cs.all (·.lt n) := rfl
@[go_sem] theorem ev_pblt2 {n : Nat} {e : TypeId} {sz m : Nat} {xs : List Value} : PB.lt n (.row e sz m xs) = true := rfl
end

section
variable {n : St → Prop} {Q : Exit → St → Prop} {st : St} {i id : Nat}
theorem ev_q1 : qthen n Q .normal st = n st := rfl
theorem ev_q2 : qthen n Q (.exit i) st = Q (.exit i) st := rfl
theorem ev_q3 : qthen n Q .ret st = Q .ret st := rfl
theorem ev_q4 : qblock id Q .normal st = Q .normal st := rfl
theorem ev_q5 : qblock id Q .ret st = Q .ret st := rfl
theorem ev_q6 : qblock i Q (.exit i) st = Q .normal st := by simp [qblock]
theorem ev_q7 (h : (i == id) = false) : qblock id Q (.exit i) st = Q (.exit i) st := by
  have : i ≠ id := by simpa using h
  simp [qblock, this]
attribute [go_sem] ev_q1 ev_q2 ev_q3 ev_q4 ev_q5 ev_q6 ev_q7
end
/-- What stands at the head of a body. -/
theorem T_seq_region {x : Cx} {st : St} {Q : Exit → St → Prop} {id : Nat} {ops : List Oper} {d : Code} (hd : dstOk x.N ops = true) (h : vops x.P ops ops st fun st' => T x st' d Q) : T x st (.seq (.region id ops.toArray false) d) Q :=
  T_seq (T_region hd h)
theorem T_seq_if {x : Cx} {st : St} {Q : Exit → St → Prop} {t : Tmp} {c d : Code} {b : Bool} (hb : look t st.e = some (true, .c (.v (.bool b)))) (ht : b = true → T x st c (qthen (fun st' => T x st' d Q) Q)) (hf : b = false → T x st d Q) : T x st (.seq (.cond (.tmp t) c .skip) d) Q :=
  T_seq (T_cond hb ht fun e => T_skip (hf e))
end Go.SL
namespace Go.SL
@[congr] theorem T_congr {x : Cx} {st st' : St} {c : Code} {Q : Exit → St → Prop} (h : st = st') : T x st c Q = T x st' c Q := by rw [h]
theorem ev_bt {b : Bool} : (b == true) = b := by cases b <;> rfl
theorem ev_bf {b : Bool} : (b == false) = !b := by cases b <;> rfl
theorem ev_nt {b : Bool} : ((!b) = true) = (b = false) := by cases b <;> simp
theorem ev_c1 {b c : Bool} : (bif b then c else false) = (b && c) := by cases b <;> rfl
theorem ev_c2 {b c : Bool} : (bif b then true else c) = (b || c) := by cases b <;> rfl
theorem ev_imp2 {p q : Prop} : (p → q → p) = True := eq_true fun h _ => h
theorem ev_imp1 {p : Prop} : (p → p) = True := by simp
theorem ev_exk {a : IntKind} : (∃ k, a = k) = True := eq_true ⟨a, rfl⟩
attribute [go_sem] ev_exk
attribute [go_sem] ev_bt ev_bf ev_nt ev_c1 ev_c2 ev_imp1 ev_imp2
attribute [go_sem] eq_self true_and and_true true_implies implies_true if_true if_false Bool.and_true Bool.true_and List.length_cons List.length_nil List.all_cons List.all_nil
  List.map_cons List.map_nil List.flatMap_cons List.flatMap_nil List.append_nil List.nil_append List.cons_append List.drop_zero List.drop_succ_cons List.take_zero List.take_succ_cons List.drop_nil List.take_nil
  List.getD_cons_zero List.getD_cons_succ Option.map_some Option.map_none Option.isSome_some Option.isSome_none Option.getD_some Option.getD_none List.zip_cons_cons List.zip_nil_right
  Bool.and_eq_true and_imp ne_eq not_true_eq_false not_false_eq_true List.forall_mem_cons List.not_mem_nil false_implies and_self decide_true
end Go.SL
