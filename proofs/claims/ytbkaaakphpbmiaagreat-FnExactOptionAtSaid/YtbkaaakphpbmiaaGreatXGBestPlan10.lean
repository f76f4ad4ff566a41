/- What functions of the given program compute, as contracts. -/
import Derived.Test.YtbkaaakphpbmiaaGreatSGBestPlanx7
import Derived.Test.YtbkaaakphpbmiaaGreatXGBestPlan9
set_option linter.unusedVariables false
set_option linter.unusedSimpArgs false
set_option maxRecDepth 4000
open Nat renaming reduceAdd → jq, reduceMul → jj, reduceBEq → jy, reduceLeDiff → jv, reduceLT → jk, reduceEqDiff → jx
open Bool renaming or_eq_false_iff → jp, or_eq_true → jQ, and_eq_true → jJ
open Int renaming toNat_natCast → jW, natCast_nonneg → jY
open Go.Proofs.Tryz renaming prog → jV
namespace Go.Proofs.YtbkaaakphpbmiaaGreat
open Go Go.SL
set_option maxHeartbeats 1000000
def Ov (p q:DPassage):Bool:=decide (max p.start q.start < min p.fin q.fin)
def zJM (a b g:Int):Bool:=decide (max a b - min a b < g)
def zJN (c:PChart) (r:DRegime) (p q:DPassage):Int :=
 if ¬ (p.seg=q.seg∧0≤p.seg∧p.seg < c.segments.length) then 0
 else if p.ship=q.ship then (if Ov p q=true then 1 else 0)
 else if p.toward ≠ q.toward then (if (Ov p q && (r.noMeet || !(c.segments.getD p.seg.toNat dG).meet))=true then 2 else 0)
 else if (zJM p.start q.start r.gap || zJM p.fin q.fin r.gap)=true then 3
 else if (p.start < q.start∧q.fin < p.fin)∨(q.start < p.start∧p.fin < q.fin) then 4 else 0
def zJO (c:PChart) (r:DRegime) (a b:List DPassage):Bool:=a.any fun p=>b.any fun q=>decide (zJN c r p q ≠ 0)
theorem zJP {α:Type} {f:α→Bool} {l:List α} {k:Nat} (hk:k < l.length):(l.take (k+1)).any f=((l.take k).any f || f l[k]):=by
 rw [List.take_succ_eq_append_getElem hk,List.any_append,List.any_cons,List.any_nil,Bool.or_false]
theorem zJQ {α:Type} {f:α→Bool} {l:List α} {k:Nat} (hk:k < l.length) (h:f l[k]=true):l.any f=true:=List.any_eq_true.2 ⟨_,List.getElem_mem hk,h⟩
theorem zJR {a b g:Int} (ha:I64 a) (hb:I64 b) (hg:0≤g∧g≤60):decide (IntKind.u64.wrap (IntKind.u64.wrap (max a b) - IntKind.u64.wrap (min a b)) < IntKind.u64.wrap g)=zJM a b g:=by
 unfold I64 at ha hb
 rw [zJM,decide_eq_decide]
 show ((max a b % (2 ^ 64:Int) - min a b % (2 ^ 64:Int)) % (2 ^ 64:Int) < g % (2 ^ 64:Int)) ↔ _
 omega
theorem zJS (p q:DPassage) (h:Hp):Ct jV 236 [p.v,q.v] h fun v h'=>v=.bool (Ov p q)∧h'=h:=by
 refine zdn (fun A W=>by simp) Tryz.func236 rfl rfl (by simp) fun W0=>?_
 exact Wk0
 try rfl
theorem zZm (p q:DPassage) (h:Hp):Ct jV 268 [p.v,q.v] h fun v h'=>v=.bool (Ov p q)∧h'=h:=by
 refine zdn (fun A W=>by simp) Tryz.func268 rfl rfl (by simp) fun W0=>?_
 exact Wk0
 try rfl
theorem zJT (a b g:Int) (h:Hp) (ha:I64 a) (hb:I64 b) (hg:0≤g∧g≤60):Ct jV 237 [.int .i64 a,.int .i64 b,.int .i64 g] h fun v h'=>v=.bool (zJM a b g)∧h'=h:=by
 rw [← zJR ha hb hg]
 refine zdn (fun A W=>by simp) Tryz.func237 rfl rfl (by simp) fun W0=>?_
 exact Wk0
theorem zZn (a b g:Int) (h:Hp) (ha:I64 a) (hb:I64 b) (hg:0≤g∧g≤60):Ct jV 269 [.int .i64 a,.int .i64 b,.int .i64 g] h fun v h'=>v=.bool (zJM a b g)∧h'=h:=by
 have ha1:=ha
 have hb1:=hb
 unfold I64 at ha1 hb1
 refine zdn (fun A W=>by simp) Tryz.func269 rfl rfl (by simp) fun W0=>?_
 refine Wk ?_
 refine zc9 rfl (fun hq=>?_) (fun hq=>?_)
 ·refine Wk ?_
  obtain ⟨h1,h2⟩:=Bool.and_eq_true_iff.1 hq
  have h1:min a b < 0:=of_decide_eq_true h1
  have h2:IntKind.i64.wrap (min a b+9223372036854775807) < max a b:=of_decide_eq_true h2
  rw [zjz (by omega)] at h2
  rw [zJM,decide_eq_false (by omega)]
 ·refine Wk ?_
  have hk:max a b - min a b≤9223372036854775807:=by
   rcases Bool.and_eq_false_iff.1 hq with h1|h2
   ·have h1:¬ min a b < 0:=of_decide_eq_false h1
    omega
   ·have h2:¬ IntKind.i64.wrap (min a b+9223372036854775807) < max a b:=of_decide_eq_false h2
    by_cases h0:min a b < 0
    ·rw [zjz (by omega)] at h2;omega
    ·omega
  refine congrArg Value.bool (decide_eq_decide.2 ?_)
  rw [zjz (by omega)]
theorem cf_t {a b c d:Int} (h:((decide (a < b) && decide (d < c)) || (decide (b < a) && decide (c < d)))=true):(a < b∧d < c)∨(b < a∧c < d):=by simpa using h
theorem cf_f {a b c d:Int} (h:((decide (a < b) && decide (d < c)) || (decide (b < a) && decide (c < d)))=false):¬ ((a < b∧d < c)∨(b < a∧c < d)):=by
 intro H
 have:((decide (a < b) && decide (d < c)) || (decide (b < a) && decide (c < d)))=true:=by simpa using H
 rw [this] at h;cases h
theorem zJU {a b n:Int} (h:(a != b || !(decide (0≤a) && decide (a < n)))=true):¬ (a=b∧0≤a∧a < n):=by
 intro ⟨h1,h2,h3⟩
 rw [decide_eq_true h2,decide_eq_true h3,h1] at h
 simp at h
theorem zJV {a b n:Int} (h:(a != b || !(decide (0≤a) && decide (a < n)))=false):a=b∧0≤a∧a < n:=by
 simpa using h
theorem zZo {a b n:Int} (h:(!(decide (0≤a) && decide (a≤n - 1)) || a != b)=true):¬ (a=b∧0≤a∧a < n):=by
 intro ⟨h1,h2,h3⟩
 rw [decide_eq_true h2,decide_eq_true (show a≤n - 1 by omega),h1] at h
 simp at h
theorem zZp {a b n:Int} (h:(!(decide (0≤a) && decide (a≤n - 1)) || a != b)=false):a=b∧0≤a∧a < n:=by
 have:a=b∧0≤a∧a≤n - 1:=by
  rcases Bool.or_eq_false_iff.1 h with ⟨h1,h2⟩
  refine ⟨by simpa using h2,?_⟩
  simpa using h1
 omega
theorem zJW (x:DChart) (r:DRegime) (p q:DPassage) (h:Hp) (hx:Enc.ok h x) (hr:zvl r=true) (hp:Enc.ok h p) (hq:Enc.ok h q):Ct jV 169 [x.v,r.v,p.v,q.v] h fun v h'=>v=.int .i64 (zJN (Con.con x) r p q)∧h'=h:=by
 have hl:=hx.2.max
 have hcs:(Con.con x).segments=x.segments.l:=zvJ x
 have hg:0≤r.gap∧r.gap≤60:=by rw [zvl,In,jJ,decide_eq_true_eq,decide_eq_true_eq] at hr;exact hr
 refine zdn (fun A W=>by simp) Tryz.func169 rfl rfl (by simp) fun W0=>?_
 repeat' first|refine Wa ?_|refine zhF (fun _=>zuo _ _ _) ?_|refine zhF (fun _=>zJS p q _) ?_|(simp only [go_sem,jq,jj,jy,jv,jk,jx];try rfl)|refine Wb ?_|fail
 refine zc9 rfl (fun hc=>?_) (fun hc=>?_)
 ·have hc:=zJU hc
  refine Wk ?_
  rw [zJN,hcs,if_pos hc]
 obtain ⟨hs,hs0,hs1⟩:=zJV hc
 have hF:zJN (Con.con x) r p q=if p.ship=q.ship then (if Ov p q=true then 1 else 0)
  else if p.toward ≠ q.toward then (if (Ov p q && (r.noMeet || !(x.segments.l.getD p.seg.toNat dG).meet))=true then 2 else 0)
  else if (zJM p.start q.start r.gap || zJM p.fin q.fin r.gap)=true then 3
  else if (p.start < q.start∧q.fin < p.fin)∨(q.start < p.start∧p.fin < q.fin) then 4 else 0:=by
  rw [zJN,hcs,if_neg (fun H=>H ⟨hs,hs0,hs1⟩)]
 have hsi:p.seg.toNat < x.segments.l.length:=by omega
 have hge:x.segments.l.getD p.seg.toNat dG=x.segments.l[p.seg.toNat]:=by rw [List.getD_eq_getElem?_getD,List.getElem?_eq_getElem hsi];rfl
 rw [hge] at hF
 by_cases hsh:p.ship=q.ship
 ·rw [if_pos hsh] at hF
  have hb:(p.ship == q.ship)=true:=beq_iff_eq.2 hsh
  cases ho:Ov p q with
  | true =>
   rw [ho] at hF
   repeat' first|refine Wa ?_|refine zhF (fun _=>zJS p q _) ?_|(simp only [go_sem,jq,jj,jy,jv,jk,jx,hb,ho,Bool.and_self];try rfl)|refine Wb ?_|fail
   refine zc9 rfl (fun hd=>?_) (fun hd=>?_)
   case refine_2=>cases hd
   refine Wk ?_
   rw [hF];rfl
  | false =>
   rw [ho] at hF
   repeat' first|refine Wa ?_|refine zhF (fun _=>zJS p q _) ?_|(simp only [go_sem,jq,jj,jy,jv,jk,jx,hb,ho,Bool.and_false];try rfl)|refine Wb ?_|fail
   refine zc9 rfl (fun hd=>?_) (fun hd=>?_)
   ·cases hd
   repeat' first|refine Wa ?_|(simp only [go_sem,jq,jj,jy,jv,jk,jx,hb];try rfl)|refine Wb ?_|fail
   refine zc9 rfl (fun hd=>?_) (fun hd=>?_)
   case refine_2=>cases hd
   refine Wk ?_
   rw [hF];rfl
 rw [if_neg hsh] at hF
 have hb:(p.ship == q.ship)=false:=beq_eq_false_iff_ne.2 hsh
 repeat' first|refine Wa ?_|refine zhF (fun _=>zJS p q _) ?_|(simp only [go_sem,jq,jj,jy,jv,jk,jx,hb,Bool.false_and];try rfl)|refine Wb ?_|fail
 have htq:(p.toward ≠ q.toward) ↔ (p.toward == q.toward)=false:=by cases p.toward <;> cases q.toward <;> simp
 refine zc9 rfl (fun hd=>?_) (fun hd=>?_)
 ·cases hd
 repeat' first|refine Wa ?_|(simp only [go_sem,jq,jj,jy,jv,jk,jx,hb];try rfl)|refine Wb ?_|fail
 refine zc9 rfl (fun hd=>?_) (fun hd=>?_)
 ·cases hd
 cases htw:(p.toward == q.toward) with
 | false =>
  rw [if_pos (htq.2 htw)] at hF
  cases ho:Ov p q with
  | false =>
   rw [ho] at hF
   repeat' first|refine Wa ?_|refine zhF (fun _=>zJS p q _) ?_|(simp only [go_sem,jq,jj,jy,jv,jk,jx,htw,Bool.false_eq_true,Bool.true_eq_false,false_implies,implies_true,true_and,and_true,and_self,Bool.not_false,Bool.not_true,ho,Bool.and_false,Bool.false_and];try rfl)|refine Wb ?_|fail
   refine zc9 rfl (fun hd=>?_) (fun hd=>?_)
   ·cases hd
   repeat' first|refine Wa ?_|(simp only [go_sem,jq,jj,jy,jv,jk,jx,htw,Bool.not_false,Bool.not_true];try rfl)|refine Wb ?_|fail
   refine zc9 rfl (fun hd=>?_) (fun hd=>?_)
   case refine_2=>cases hd
   refine Wk ?_
   rw [hF];rfl
  | true =>
   rw [ho] at hF
   cases hn:r.noMeet with
   | true =>
    rw [hn] at hF
    repeat' first|refine Wa ?_|refine zhF (fun _=>zJS p q _) ?_|(simp only [go_sem,jq,jj,jy,jv,jk,jx,htw,Bool.false_eq_true,Bool.true_eq_false,false_implies,implies_true,true_and,and_true,and_self,Bool.not_false,Bool.not_true,ho,hn,Bool.and_true,Bool.true_and,Bool.true_or,Bool.and_self];try rfl)|refine Wb ?_|fail
    refine zc9 rfl (fun hd=>?_) (fun hd=>?_)
    case refine_2=>cases hd
    refine Wk ?_
    rw [hF];rfl
   | false =>
    rw [hn] at hF
    cases hm:x.segments.l[p.seg.toNat].meet with
    | true =>
     rw [hm] at hF
     repeat' first|refine Wa ?_|refine zhF (fun _=>zJS p q _) ?_|(simp only [go_sem,jq,jj,jy,jv,jk,jx,htw,Bool.false_eq_true,Bool.true_eq_false,false_implies,implies_true,true_and,and_true,and_self,Bool.not_false,Bool.not_true,ho,hn,hm,Bool.and_true,Bool.true_and,Bool.true_or,Bool.and_self,zlS hx.2 hsi,zkU hx.2 hsi,hx.2.some hsi,hsi,hs0,hs1,jW];try rfl)|refine Wb ?_|fail
     refine zc9 rfl (fun hd=>?_) (fun hd=>?_)
     ·cases hd
     repeat' first|refine Wa ?_|(simp only [go_sem,jq,jj,jy,jv,jk,jx,htw,Bool.not_false,Bool.not_true];try rfl)|refine Wb ?_|fail
     refine zc9 rfl (fun hd=>?_) (fun hd=>?_)
     case refine_2=>cases hd
     refine Wk ?_
     rw [hF];rfl
    | false =>
     rw [hm] at hF
     repeat' first|refine Wa ?_|refine zhF (fun _=>zJS p q _) ?_|(simp only [go_sem,jq,jj,jy,jv,jk,jx,htw,Bool.false_eq_true,Bool.true_eq_false,false_implies,implies_true,true_and,and_true,and_self,Bool.not_false,Bool.not_true,ho,hn,hm,Bool.and_true,Bool.true_and,Bool.true_or,Bool.and_self,zlS hx.2 hsi,zkU hx.2 hsi,hx.2.some hsi,hsi,hs0,hs1,jW];try rfl)|refine Wb ?_|fail
     refine zc9 rfl (fun hd=>?_) (fun hd=>?_)
     case refine_2=>cases hd
     refine Wk ?_
     rw [hF];rfl
 | true =>
  rw [if_neg (fun H=>by rw [htq.1 H] at htw;cases htw)] at hF
  repeat' first|refine Wa ?_|refine zhF (fun _=>zJS p q _) ?_|(simp only [go_sem,jq,jj,jy,jv,jk,jx,htw,Bool.false_eq_true,Bool.true_eq_false,false_implies,implies_true,true_and,and_true,and_self,Bool.not_false,Bool.not_true,Bool.and_false,Bool.false_and];try rfl)|refine Wb ?_|fail
  refine zc9 rfl (fun hd=>?_) (fun hd=>?_)
  ·cases hd
  repeat' first|refine Wa ?_|(simp only [go_sem,jq,jj,jy,jv,jk,jx,htw,Bool.not_false,Bool.not_true];try rfl)|refine Wb ?_|fail
  refine zc9 rfl (fun hd=>?_) (fun hd=>?_)
  ·cases hd
  repeat' first|refine Wa ?_|refine zhF (fun _=>zJT _ _ _ _ hp.2.2.1 hq.2.2.1 hg) ?_|refine zhF (fun _=>zJT _ _ _ _ hp.2.2.2 hq.2.2.2 hg) ?_|(simp only [go_sem,jq,jj,jy,jv,jk,jx];try rfl)|refine Wb ?_|fail
  refine zc9 rfl (fun hd=>?_) (fun hd=>?_)
  ·rw [if_pos hd] at hF
   refine Wk ?_
   rw [hF]
  rw [if_neg (by rw [hd];exact Bool.false_ne_true)] at hF
  refine Wk ?_
  refine zc9 rfl (fun hd=>?_) (fun hd=>?_)
  ·refine Wk ?_
   rw [hF,if_pos (cf_t hd)]
  ·refine Wk ?_
   rw [hF,if_neg (cf_f hd)]
theorem zZq (x:DChart) (r:DRegime) (p q:DPassage) (h:Hp) (hx:Enc.ok h x) (hr:zvl r=true) (hC:zva (Con.con x)=true) (hp:Enc.ok h p) (hq:Enc.ok h q):Ct jV 227 [x.v,r.v,p.v,q.v] h fun v h'=>v=.int .i64 (zJN (Con.con x) r p q)∧h'=h:=by
 have hl:=hx.2.max
 have hcs:(Con.con x).segments=x.segments.l:=zvJ x
 have hg:0≤r.gap∧r.gap≤60:=by rw [zvl,In,jJ,decide_eq_true_eq,decide_eq_true_eq] at hr;exact hr
 refine zdn (fun A W=>by simp) Tryz.func227 rfl rfl (by simp) fun W0=>?_
 have hsub:IntKind.i64.wrap (↑x.segments.l.length - 1)=(x.segments.l.length:Int) - 1:=zjz (by omega)
 repeat' first|refine Wa ?_|refine zhF (fun _=>zYZ _ _ _ _) ?_|refine zhF (fun _=>zY8 x _ hx) ?_|refine zhF (fun _=>zZc r _) ?_|(simp only [go_sem,jq,jj,jy,jv,jk,jx,hC,hr,Bool.not_true,Bool.not_false,Bool.false_or,Bool.false_eq_true,Bool.true_eq_false,false_implies,implies_true,true_and,and_true,and_self];try rfl)|refine Wb ?_|fail
 rw [hsub]
 refine zc9 rfl (fun hc=>?_) (fun hc=>?_)
 ·have hc:=zZo hc
  refine Wk ?_
  rw [zJN,hcs,if_pos hc]
 obtain ⟨hs,hs0,hs1⟩:=zZp hc
 have hF:zJN (Con.con x) r p q=if p.ship=q.ship then (if Ov p q=true then 1 else 0)
  else if p.toward ≠ q.toward then (if (Ov p q && (r.noMeet || !(x.segments.l.getD p.seg.toNat dG).meet))=true then 2 else 0)
  else if (zJM p.start q.start r.gap || zJM p.fin q.fin r.gap)=true then 3
  else if (p.start < q.start∧q.fin < p.fin)∨(q.start < p.start∧p.fin < q.fin) then 4 else 0:=by
  rw [zJN,hcs,if_neg (fun H=>H ⟨hs,hs0,hs1⟩)]
 have hsi:p.seg.toNat < x.segments.l.length:=by omega
 have hge:x.segments.l.getD p.seg.toNat dG=x.segments.l[p.seg.toNat]:=by rw [List.getD_eq_getElem?_getD,List.getElem?_eq_getElem hsi];rfl
 rw [hge] at hF
 have htq:(p.toward ≠ q.toward) ↔ (p.toward == q.toward)=false:=by cases p.toward <;> cases q.toward <;> simp
 refine Wk ?_
 refine zc9 rfl (fun hd=>?_) (fun hd=>?_)
 ·rw [if_pos (eq_of_beq hd)] at hF
  repeat' first|refine Wa ?_|refine zhF (fun _=>zZm p q _) ?_|(simp only [go_sem,jq,jj,jy,jv,jk,jx];try rfl)|refine Wb ?_|fail
  refine zc9 rfl (fun hd=>?_) (fun hd=>?_)
  ·refine Wk ?_
   rw [hF,if_pos hd]
  ·refine Wk ?_
   rw [hF,if_neg (by rw [hd];exact Bool.false_ne_true)]
 rw [if_neg (fun H=>by rw [beq_iff_eq.2 H] at hd;cases hd)] at hF
 refine Wk ?_
 cases htw:(p.toward == q.toward) with
 | false =>
  rw [if_pos (htq.2 htw)] at hF
  refine zc9 rfl (fun hd=>?_) (fun hd=>?_)
  case refine_2=>cases hd
  cases ho:Ov p q with
  | false =>
   rw [ho] at hF
   repeat' first|refine Wa ?_|refine zhF (fun _=>zZm p q _) ?_|(simp only [go_sem,jq,jj,jy,jv,jk,jx,Bool.not_true,Bool.not_false,Bool.false_eq_true,Bool.true_eq_false,false_implies,implies_true,true_and,and_true,and_self,ho,Bool.and_false,Bool.false_and];try rfl)|refine Wb ?_|fail
   refine zc9 rfl (fun hd=>?_) (fun hd=>?_)
   ·cases hd
   refine Wk ?_
   rw [hF];rfl
  | true =>
   rw [ho] at hF
   cases hn:r.noMeet with
   | true =>
    rw [hn] at hF
    repeat' first|refine Wa ?_|refine zhF (fun _=>zZm p q _) ?_|(simp only [go_sem,jq,jj,jy,jv,jk,jx,Bool.not_true,Bool.not_false,Bool.false_eq_true,Bool.true_eq_false,false_implies,implies_true,true_and,and_true,and_self,ho,hn,Bool.and_true,Bool.true_and,Bool.true_or,Bool.and_self];try rfl)|refine Wb ?_|fail
    refine zc9 rfl (fun hd=>?_) (fun hd=>?_)
    case refine_2=>cases hd
    refine Wk ?_
    rw [hF];rfl
   | false =>
    rw [hn] at hF
    cases hm:x.segments.l[p.seg.toNat].meet with
    | true =>
     rw [hm] at hF
     repeat' first|refine Wa ?_|refine zhF (fun _=>zZm p q _) ?_|(simp only [go_sem,jq,jj,jy,jv,jk,jx,Bool.not_true,Bool.not_false,Bool.false_eq_true,Bool.true_eq_false,false_implies,implies_true,true_and,and_true,and_self,ho,hn,hm,Bool.and_true,Bool.true_and,Bool.true_or,Bool.and_self,zlS hx.2 hsi,zkU hx.2 hsi,hx.2.some hsi,hsi,hs0,hs1,jW];try rfl)|refine Wb ?_|fail
     refine zc9 rfl (fun hd=>?_) (fun hd=>?_)
     ·cases hd
     refine Wk ?_
     rw [hF];rfl
    | false =>
     rw [hm] at hF
     repeat' first|refine Wa ?_|refine zhF (fun _=>zZm p q _) ?_|(simp only [go_sem,jq,jj,jy,jv,jk,jx,Bool.not_true,Bool.not_false,Bool.false_eq_true,Bool.true_eq_false,false_implies,implies_true,true_and,and_true,and_self,ho,hn,hm,Bool.and_true,Bool.true_and,Bool.true_or,Bool.and_self,zlS hx.2 hsi,zkU hx.2 hsi,hx.2.some hsi,hsi,hs0,hs1,jW];try rfl)|refine Wb ?_|fail
     refine zc9 rfl (fun hd=>?_) (fun hd=>?_)
     case refine_2=>cases hd
     refine Wk ?_
     rw [hF];rfl
 | true =>
  rw [if_neg (fun H=>by rw [htq.1 H] at htw;cases htw)] at hF
  refine zc9 rfl (fun hd=>?_) (fun hd=>?_)
  ·cases hd
  repeat' first|refine Wa ?_|refine zhF (fun _=>zZn _ _ _ _ hp.2.2.1 hq.2.2.1 hg) ?_|refine zhF (fun _=>zZn _ _ _ _ hp.2.2.2 hq.2.2.2 hg) ?_|(simp only [go_sem,jq,jj,jy,jv,jk,jx];try rfl)|refine Wb ?_|fail
  refine zc9 rfl (fun hd=>?_) (fun hd=>?_)
  ·rw [if_pos hd] at hF
   refine Wk ?_
   rw [hF]
  rw [if_neg (by rw [hd];exact Bool.false_ne_true)] at hF
  refine Wk ?_
  refine zc9 rfl (fun hd=>?_) (fun hd=>?_)
  ·refine Wk ?_
   rw [hF,if_pos (cf_t hd)]
  ·refine Wk ?_
   rw [hF,if_neg (cf_f hd)]
def zvQ (l:List DSurge) (m:Int):Nat→Nat
 | 0=>0
 | k+1=>if (l.getD k dS).src≤m then k else zvQ l m k
def zvR (l:List DSurge) (m:Int):Nat:=zvQ l m l.length
theorem zvS {l:List DSurge} {m:Int}:∀ {k:Nat},0 < k→zvQ l m k < k
 | k+1,_=>by
  unfold zvQ
  split
  ·omega
  ·rcases Nat.eq_zero_or_pos k with rfl|h
   ·exact Nat.zero_lt_one
   ·have:=zvS (l:=l) (m:=m) h;omega
theorem zvT {l:List DSurge} {m:Int} (h:0 < l.length):zvR l m < l.length:=zvS h
theorem zvU {l:List DSurge} {m:Int} {k:Nat} (hk:k < l.length) (h:l[k].src≤m):zvQ l m (k+1)=k:=by rw [zvQ,sget hk,if_pos h]
theorem zvV {l:List DSurge} {m:Int} {k:Nat} (hk:k < l.length) (h:¬ l[k].src≤m):zvQ l m (k+1)=zvQ l m k:=by rw [zvQ,sget hk,if_neg h]
theorem zvW {f:PForecast} (h:zuY f=true):0 < f.surges.length:=by
 simp only [zuY,In,jJ,decide_eq_true_eq] at h
 omega
theorem zvX (f:DForecast):(Con.con f).surges=f.surges.l:=zuZ _
def zvY (n p:Int):Int :=
 if zuG p=true then
  (if n % p < Int.tdiv p 2 then IntKind.i64.wrap (Int.tdiv (IntKind.i64.wrap (IntKind.i64.wrap (40000 * (n % p)) * IntKind.i64.wrap (Int.tdiv p 2 - n % p))) (IntKind.i64.wrap (Int.tdiv p 2 * Int.tdiv p 2)))
   else IntKind.i64.wrap (0 - IntKind.i64.wrap (Int.tdiv (IntKind.i64.wrap (IntKind.i64.wrap (40000 * IntKind.i64.wrap (n % p - Int.tdiv p 2)) * IntKind.i64.wrap (Int.tdiv p 2 - IntKind.i64.wrap (n % p - Int.tdiv p 2)))) (IntKind.i64.wrap (Int.tdiv p 2 * Int.tdiv p 2)))))
 else 0
def zvZ (m:Int) (acc:Int) (p:DPart):Int:=IntKind.i64.wrap (acc+IntKind.i64.wrap (Int.tdiv (IntKind.i64.wrap (p.amp * zvY (IntKind.i64.wrap (m+p.phase)) p.period)) 10000))
def zv0 (t:PTide) (m:Int):Int:=t.parts.foldl (zvZ m) t.mean
def zv1 (f:PForecast) (m:Int):Int:=IntKind.i64.wrap (zv0 f.tide m+(f.surges.getD (zvR f.surges m) dS).low)
theorem zv2 (f:DForecast) (m:Int) (h:Hp) (hf:Enc.ok h f):Ct jV 150 [f.v,.int .i64 m] h fun v h'=>v=.int .i64 (zvR f.surges.l m:Nat)∧h'=h:=by
 have hp:=hf.2
 have hl:=hp.max
 refine zdn (fun A W=>by simp) Tryz.func150 rfl rfl (by simp) fun W0=>?_
 refine Wk ?_
 refine zde (ι:=Nat) (fun k=>⟨[(1,true,.c (.v (.int .i64 m))),(5,true,.c (.v (.int .i64 (zvQ f.surges.l m k:Nat)))),(9,true,.c (.v f.surges.val)),(10,true,.c (.v (.int .i64 f.surges.l.length))),(11,true,.c (.v (.int .i64 k)))],[],h,0⟩) (fun k=>k≤f.surges.l.length) (fun k=>f.surges.l.length - k) 0 (Nat.zero_le _) ?_ ?_
 ·refine Evs ?_
  exact Gk
 intro k hk
 refine Wk ?_
 refine zc9 rfl (fun hdk=>?_) (fun hdk=>?_)
 ·have hlt:=zjH hdk
  repeat' first|refine Wa ?_|(simp only [go_sem,jq,jj,jy,jv,jk,jx,zkM hp hlt,hp.some hlt,hlt,jW];try rfl)|refine Wb ?_|fail
  refine zc9 rfl (fun hq=>?_) (fun hq=>?_)
  ·refine Wk ?_
   refine ⟨k+1,hlt,by omega,zjB ?_,zjB (zjA hlt (by omega))⟩
   rw [zvU hlt (of_decide_eq_true hq)]
  ·refine Wk ?_
   refine ⟨k+1,hlt,by omega,zjB ?_,zjB (zjA hlt (by omega))⟩
   rw [zvV hlt (of_decide_eq_false hq)]
 ·have hge:=zjI hdk
  refine Wk ?_
  rw [zvR,Nat.le_antisymm hge hk]
theorem zZr (f:DForecast) (m:Int) (h:Hp) (hf:Enc.ok h f) (h0:0 < f.surges.l.length):Ct jV 66 [f.v,.int .i64 m] h fun v h'=>v=(f.surges.l.getD (zvR f.surges.l m) dS).v∧h'=h:=by
 have hp:=hf.2
 have hl:=hp.max
 have h0i:(0:Int) < f.surges.l.length:=by omega
 have hp0:=hp.some h0
 have hs0:=zkM hp h0
 simp only [go_sem,Nat.zero_mul] at hs0
 refine Ct.forget ?_
 refine zdn (fun A W=>by simp) Tryz.func66 rfl rfl (by simp) fun W0=>?_
 repeat' first|refine Wa ?_|(simp only [go_sem,jq,jj,jy,jv,jk,jx,hp0,hs0,h0i,Int.toNat_zero,Nat.zero_mul,Int.le_refl,implies_true,true_and,and_true];try rfl)|refine Wb ?_|fail
 refine zde (ι:=Nat) (fun k=>⟨[(1,true,.c (.v (.int .i64 m))),(4,true,.c (.p 1 0)),(5,true,.c (.p 2 0)),(13,true,.c (.v f.surges.val)),(14,true,.c (.v (.int .i64 f.surges.l.length))),(15,true,.c (.v (.int .i64 k)))],[(1,.box 125 [.v (.int .i64 0),.v (.int .i64 0),.v (.int .i64 0)]),(2,.box 125 [.v (.int .i64 (f.surges.l.getD (zvQ f.surges.l m k) dS).src),.v (.int .i64 (f.surges.l.getD (zvQ f.surges.l m k) dS).low),.v (.int .i64 (f.surges.l.getD (zvQ f.surges.l m k) dS).high)])],h,3⟩) (fun k=>k≤f.surges.l.length) (fun k=>f.surges.l.length - k) 0 (Nat.zero_le _) ?_ ?_
 ·refine Evs ?_
  rw [zvQ,sget h0]
  exact Gk
 intro k hk
 refine Wk ?_
 refine zc9 rfl (fun hdk=>?_) (fun hdk=>?_)
 ·have hlt:=zjH hdk
  repeat' first|refine Wa ?_|(simp only [go_sem,jq,jj,jy,jv,jk,jx,zkM hp hlt,hp.some hlt,hlt,jW];try rfl)|refine Wb ?_|fail
  refine zc9 rfl (fun hq=>?_) (fun hq=>?_)
  ·refine Wk ?_
   refine ⟨k+1,hlt,by omega,?_⟩
   rw [zvU hlt (of_decide_eq_true hq),sget hlt]
   refine ⟨zjB (zjA hlt (by omega)),?_⟩
   exact Gk
  ·refine Wk ?_
   refine ⟨k+1,hlt,by omega,?_⟩
   rw [zvV hlt (of_decide_eq_false hq)]
   refine ⟨zjB (zjA hlt (by omega)),?_⟩
   exact Gk
 ·have hge:=zjI hdk
  refine Wk ?_
  rw [zvR,Nat.le_antisymm hge hk]
  try rfl
theorem zv3 {p:Int} (h:zuG p=true):4≤p∧p≤2880∧Int.tmod p 4=0:=by
 simp only [zuG,In,jJ,decide_eq_true_eq,beq_iff_eq] at h
 exact ⟨h.1.1,h.1.2,h.2⟩
theorem zv4 {n p:Int} (h:4≤p∧p≤2880):IntKind.i64.wrap (Int.tmod n p+p)=Int.tmod n p+p∧Int.tmod (Int.tmod n p+p) p=n % p∧(if Int.tmod n p < 0 then Int.tmod n p+p else Int.tmod n p)=n % p∧-p < Int.tmod n p∧Int.tmod n p < p:=by
 have e1:-p < Int.tmod n p∧Int.tmod n p < p:=by
  have:=Int.tmod_lt_of_pos n (show 0 < p by omega)
  have h2:=Int.lt_tmod_of_pos n (show 0 < p by omega)
  omega
 have e2:Int.tmod n p=n % p∨Int.tmod n p=n % p - p:=by
  rw [Int.tmod_eq_emod]
  split
  ·left;omega
  ·right;omega
 have e3:=Int.emod_nonneg n (show p ≠ 0 by omega)
 have e4:=Int.emod_lt_of_pos n (show 0 < p by omega)
 refine ⟨zjz (by omega),?_,?_,e1⟩
 ·rw [Int.tmod_eq_emod_of_nonneg (by omega),Int.add_emod_right]
  rcases e2 with e2|e2
  ·rw [e2,Int.emod_emod_of_dvd _ (Int.dvd_refl p)]
  ·rw [e2,Int.sub_emod_right];exact Int.emod_emod_of_dvd _ (Int.dvd_refl p)
 ·split <;> omega
theorem zv5 (n p:Int) (h:Hp):Ct jV 323 [.int .i64 n,.int .i64 p] h fun v h'=>v=.int .i64 (zvY n p)∧h'=h:=by
 refine zdn (fun A W=>by simp) Tryz.func323 rfl rfl (by simp) fun W0=>?_
 repeat' first|refine Wa ?_|refine zhF (fun _=>zuH _ _) ?_|(simp only [go_sem,jq,jj,jy,jv,jk,jx];try rfl)|refine Wb ?_|fail
 refine zc9 rfl (fun hc=>?_) (fun hc=>?_)
 ·rw [Bool.not_eq_true'] at hc
  refine Wk ?_
  rw [zvY,if_neg (by rw [hc];exact Bool.false_ne_true)]
 rw [Bool.not_eq_false'] at hc
 obtain ⟨h1,h2,h3⟩:=zv3 hc
 obtain ⟨w1,w2,w3,w4⟩:=zv4 (n:=n) ⟨h1,h2⟩
 have hp0:¬ p=0:=by omega
 have hh:0 < Int.tdiv p 2∧Int.tdiv p 2≤1440:=by rw [Int.tdiv_eq_ediv_of_nonneg (by omega)];omega
 have hw:IntKind.i64.wrap (Int.tdiv p 2)=Int.tdiv p 2:=zjz (by omega)
 have hm:=Int.mul_le_mul hh.2 hh.2 (by omega) (by decide)
 have hm0:=Int.mul_pos hh.1 hh.1
 have hww:IntKind.i64.wrap (Int.tdiv p 2 * Int.tdiv p 2)=Int.tdiv p 2 * Int.tdiv p 2:=zjz (by omega)
 have hq0:¬ Int.tdiv p 2 * Int.tdiv p 2=0:=by omega
 have h20:¬ (2:Int)=0:=by decide
 repeat' first|refine Wa ?_|(simp only [go_sem,jq,jj,jy,jv,jk,jx,w1,w2,hp0,hw,h20,not_false_eq_true,implies_true,true_and];try rfl)|refine Wb ?_|fail
 refine zc9 rfl (fun hq=>?_) (fun hq=>?_)
 ·repeat' first|refine Wa ?_|(simp only [go_sem,jq,jj,jy,jv,jk,jx,hw,hww,hq0,not_false_eq_true,implies_true,true_and];try rfl)|refine Wb ?_|fail
  rw [zvY,if_pos hc,if_neg (by have:=of_decide_eq_true hq;omega),hww]
 ·repeat' first|refine Wa ?_|(simp only [go_sem,jq,jj,jy,jv,jk,jx,hw,hww,hq0,not_false_eq_true,implies_true,true_and];try rfl)|refine Wb ?_|fail
  rw [zvY,if_pos hc,if_pos (by have:=of_decide_eq_false hq;omega),hww]
theorem zZs (n p:Int) (h:Hp):Ct jV 321 [.int .i64 n,.int .i64 p] h fun v h'=>v=.int .i64 (zvY n p)∧h'=h:=by
 have h40:¬ (4:Int)=0:=by decide
 have h20:¬ (2:Int)=0:=by decide
 refine zdn (fun A W=>by simp) Tryz.func321 rfl rfl (by simp) fun W0=>?_
 repeat' first|refine Wa ?_|(simp only [go_sem,jq,jj,jy,jv,jk,jx,h40,not_false_eq_true,implies_true,true_and];try rfl)|refine Wb ?_|fail
 refine zc9 rfl (fun hc=>?_) (fun hc=>?_)
 ·refine Wk ?_
  rw [zvY,if_neg]
  intro e
  obtain ⟨h1,h2,h3⟩:=zv3 e
  rw [jQ,jQ] at hc
  rcases hc with (hc|hc)|hc
  ·have:=of_decide_eq_true hc;omega
  ·have:=of_decide_eq_true hc;omega
  ·exact zjD hc h3
 have hp:zuG p=true:=by
  obtain ⟨hc,hc3⟩:=Bool.or_eq_false_iff.1 hc
  obtain ⟨hc1,hc2⟩:=Bool.or_eq_false_iff.1 hc
  have hc1:=of_decide_eq_false hc1
  have hc2:=of_decide_eq_false hc2
  simp only [zuG,In,jJ,decide_eq_true_eq,beq_iff_eq]
  exact ⟨⟨by omega,by omega⟩,zjE hc3⟩
 obtain ⟨h1,h2,h3⟩:=zv3 hp
 obtain ⟨w1,w2,w3,w4⟩:=zv4 (n:=n) ⟨h1,h2⟩
 have hp0:¬ p=0:=by omega
 have hh:0 < Int.tdiv p 2∧Int.tdiv p 2≤1440:=by rw [Int.tdiv_eq_ediv_of_nonneg (by omega)];omega
 have hw:IntKind.i64.wrap (Int.tdiv p 2)=Int.tdiv p 2:=zjz (by omega)
 have hm:=Int.mul_le_mul hh.2 hh.2 (by omega) (by decide)
 have hm0:=Int.mul_pos hh.1 hh.1
 have hww:IntKind.i64.wrap (Int.tdiv p 2 * Int.tdiv p 2)=Int.tdiv p 2 * Int.tdiv p 2:=zjz (by omega)
 have hq0:¬ Int.tdiv p 2 * Int.tdiv p 2=0:=by omega
 repeat' first|refine Wa ?_|(simp only [go_sem,jq,jj,jy,jv,jk,jx,hp0,not_false_eq_true,implies_true,true_and];try rfl)|refine Wb ?_|fail
 have fin:∀ x:Int,x=n % p→True:=fun _ _=>trivial
 refine zc9 rfl (fun hx=>?_) (fun hx=>?_)
 ·have hx:=of_decide_eq_true hx
  rw [if_pos hx] at w3
  have w5:IntKind.i64.wrap (n.tmod p+p)=n % p:=by rw [w1,w3]
  repeat' first|refine Wa ?_|(simp only [go_sem,jq,jj,jy,jv,jk,jx,hp0,hw,h20,w5,not_false_eq_true,implies_true,true_and];try rfl)|refine Wb ?_|fail
  refine zc9 rfl (fun hq=>?_) (fun hq=>?_)
  ·repeat' first|refine Wa ?_|(simp only [go_sem,jq,jj,jy,jv,jk,jx,hw,hww,hq0,not_false_eq_true,implies_true,true_and];try rfl)|refine Wb ?_|fail
   rw [zvY,if_pos hp,if_pos (of_decide_eq_true hq),hww]
  ·repeat' first|refine Wa ?_|(simp only [go_sem,jq,jj,jy,jv,jk,jx,hw,hww,hq0,not_false_eq_true,implies_true,true_and];try rfl)|refine Wb ?_|fail
   rw [zvY,if_pos hp,if_neg (of_decide_eq_false hq),hww]
 ·have hx:=of_decide_eq_false hx
  rw [if_neg hx] at w3
  repeat' first|refine Wa ?_|(simp only [go_sem,jq,jj,jy,jv,jk,jx,hp0,hw,h20,w3,not_false_eq_true,implies_true,true_and];try rfl)|refine Wb ?_|fail
  refine zc9 rfl (fun hq=>?_) (fun hq=>?_)
  ·repeat' first|refine Wa ?_|(simp only [go_sem,jq,jj,jy,jv,jk,jx,hw,hww,hq0,not_false_eq_true,implies_true,true_and];try rfl)|refine Wb ?_|fail
   rw [zvY,if_pos hp,if_pos (of_decide_eq_true hq),hww]
  ·repeat' first|refine Wa ?_|(simp only [go_sem,jq,jj,jy,jv,jk,jx,hw,hww,hq0,not_false_eq_true,implies_true,true_and];try rfl)|refine Wb ?_|fail
   rw [zvY,if_pos hp,if_neg (of_decide_eq_false hq),hww]
theorem zv6 {α β:Type} {f:β→α→β} {b:β} {l:List α} {k:Nat} (hk:k < l.length):(l.take (k+1)).foldl f b=f ((l.take k).foldl f b) l[k]:=by rw [List.take_succ_eq_append_getElem hk,List.foldl_append];rfl
theorem zv7 (t:DTide) (m:Int) (h:Hp) (ht:Enc.ok h t):Ct jV 314 [t.v,.int .i64 m] h fun v h'=>v=.int .i64 (zv0 (Con.con t) m)∧h'=h:=by
 have hp:=ht.2
 have hl:=hp.max
 rw [zv0,show (Con.con t).mean=t.mean from rfl,show (Con.con t).parts=t.parts.l from zuT _]
 refine zdn (fun A W=>by simp) Tryz.func314 rfl rfl (by simp) fun W0=>?_
 refine Wk ?_
 refine zde (ι:=Nat) (fun k=>⟨[(1,true,.c (.v (.int .i64 m))),(5,true,.c (.v (.int .i64 ((t.parts.l.take k).foldl (zvZ m) t.mean)))),(11,true,.c (.v t.parts.val)),(12,true,.c (.v (.int .i64 t.parts.l.length))),(13,true,.c (.v (.int .i64 k)))],[],h,0⟩) (fun k=>k≤t.parts.l.length) (fun k=>t.parts.l.length - k) 0 (Nat.zero_le _) ?_ ?_
 ·refine Evs ?_
  exact Gk
 intro k hk
 refine Wk ?_
 refine zc9 rfl (fun hdk=>?_) (fun hdk=>?_)
 ·have hlt:=zjH hdk
  have hp':=hp.el hlt
  repeat' first|refine Wa ?_|(simp only [go_sem,jq,jj,jy,jv,jk,jx,zkH hp hlt,hp.some hlt,hlt,jW];try rfl)|refine Wb ?_|fail
  have h10:¬ (10000:Int)=0:=by decide
  refine znv rfl ?_
  refine U_t [0,1,3,4,7,2,5,8,6] rfl ?_
  simp only [go_sem,jq,jj,jy,jv,jk,jx,h10,not_false_eq_true,implies_true]
  refine U_1 9 0 [2,1] rfl rfl ?_
  simp only [go_sem,jq,jj,jy,jv,jk,jx,h10,not_false_eq_true,implies_true]
  refine zhF (fun _=>zv5 _ _ _) ?_
  simp only [go_sem,jq,jj,jy,jv,jk,jx,h10,not_false_eq_true,implies_true]
  refine U_t [10,11,12,13] rfl ?_
  simp only [go_sem,jq,jj,jy,jv,jk,jx,h10,not_false_eq_true,implies_true]
  refine U_d ?_
  refine Wk ?_
  refine ⟨k+1,hlt,by omega,zjB ?_,zjB (zjA hlt (by omega))⟩
  rw [zv6 hlt]
  rfl
 ·have hge:=zjI hdk
  refine Wk ?_
  rw [List.take_of_length_le hge]
theorem zZt (t:DTide) (m:Int) (h:Hp) (ht:Enc.ok h t):Ct jV 311 [t.v,.int .i64 m] h fun v h'=>v=.int .i64 (zv0 (Con.con t) m)∧h'=h:=by
 have hp:=ht.2
 have hl:=hp.max
 rw [zv0,show (Con.con t).mean=t.mean from rfl,show (Con.con t).parts=t.parts.l from zuT _]
 refine zdn (fun A W=>by simp) Tryz.func311 rfl rfl (by simp) fun W0=>?_
 refine Wk ?_
 refine zde (ι:=Nat) (fun k=>⟨[(1,true,.c (.v (.int .i64 m))),(5,true,.c (.v (.int .i64 ((t.parts.l.take k).foldl (zvZ m) t.mean)))),(11,true,.c (.v t.parts.val)),(12,true,.c (.v (.int .i64 t.parts.l.length))),(13,true,.c (.v (.int .i64 k)))],[],h,0⟩) (fun k=>k≤t.parts.l.length) (fun k=>t.parts.l.length - k) 0 (Nat.zero_le _) ?_ ?_
 ·refine Evs ?_
  exact Gk
 intro k hk
 refine Wk ?_
 refine zc9 rfl (fun hdk=>?_) (fun hdk=>?_)
 ·have hlt:=zjH hdk
  have hp':=hp.el hlt
  repeat' first|refine Wa ?_|(simp only [go_sem,jq,jj,jy,jv,jk,jx,zkH hp hlt,hp.some hlt,hlt,jW];try rfl)|refine Wb ?_|fail
  have h10:¬ (10000:Int)=0:=by decide
  refine znv rfl ?_
  refine U_t [0,1,3,4,7,2,5,8,6] rfl ?_
  simp only [go_sem,jq,jj,jy,jv,jk,jx,h10,not_false_eq_true,implies_true]
  refine U_1 9 0 [2,1] rfl rfl ?_
  simp only [go_sem,jq,jj,jy,jv,jk,jx,h10,not_false_eq_true,implies_true]
  refine zhF (fun _=>zZs _ _ _) ?_
  simp only [go_sem,jq,jj,jy,jv,jk,jx,h10,not_false_eq_true,implies_true]
  refine U_t [10,11,12,13] rfl ?_
  simp only [go_sem,jq,jj,jy,jv,jk,jx,h10,not_false_eq_true,implies_true]
  refine U_d ?_
  refine Wk ?_
  refine ⟨k+1,hlt,by omega,zjB ?_,zjB (zjA hlt (by omega))⟩
  rw [zv6 hlt]
  rfl
 ·have hge:=zjI hdk
  refine Wk ?_
  rw [List.take_of_length_le hge]
theorem zv8 (f:DForecast) (m:Int) (h:Hp) (hf:Enc.ok h f) (h0:0 < f.surges.l.length):Ct jV 298 [f.v,.int .i64 m] h fun v h'=>v=.int .i64 (zv1 (Con.con f) m)∧h'=h:=by
 have hp:=hf.2
 have hs:=zvT (m:=m) h0
 have hsi:((zvR f.surges.l m:Nat):Int) < f.surges.l.length:=by omega
 rw [zv1,zvX,sget hs]
 refine zdn (fun A W=>by simp) Tryz.func298 rfl rfl (by simp) fun W0=>?_
 refine Wk ?_
 refine znv rfl ?_
 refine U_t [0,2,4,6,7,1,5] rfl ?_
 simp only [go_sem,jq,jj,jy,jv,jk,jx,zlQ hp hs,hp.some hs,hs,hsi,jW,jY]
 refine U_1 3 0 [5,6,4] rfl rfl ?_
 simp only [go_sem,jq,jj,jy,jv,jk,jx,zlQ hp hs,hp.some hs,hs,hsi,jW,jY]
 refine zhF (fun _=>zv7 _ _ _ hf.1) ?_
 simp only [go_sem,jq,jj,jy,jv,jk,jx,zlQ hp hs,hp.some hs,hs,hsi,jW,jY]
 refine U_1 8 0 [5,4] rfl rfl ?_
 simp only [go_sem,jq,jj,jy,jv,jk,jx,zlQ hp hs,hp.some hs,hs,hsi,jW,jY]
 refine zhF (fun _=>zv2 f _ _ hf) ?_
 simp only [go_sem,jq,jj,jy,jv,jk,jx,zlQ hp hs,hp.some hs,hs,hsi,jW,jY]
 refine U_t [9,10,11,12,13] rfl ?_
 simp only [go_sem,jq,jj,jy,jv,jk,jx,zlQ hp hs,hp.some hs,hs,hsi,jW,jY]
 refine U_d ?_
 exact Wk0
end Go.Proofs.YtbkaaakphpbmiaaGreat
