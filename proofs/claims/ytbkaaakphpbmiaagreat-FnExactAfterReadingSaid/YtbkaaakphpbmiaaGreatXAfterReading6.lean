/- What functions of the given program compute, as contracts. -/
import Derived.Test.YtbkaaakphpbmiaaGreatSAfterReadingx4
import Derived.Test.YtbkaaakphpbmiaaGreatXAfterReading5
set_option linter.unusedVariables false
set_option linter.unusedSimpArgs false
set_option maxRecDepth 4000
open Nat renaming reduceAdd → jq, reduceMul → jj, reduceBEq → jy, reduceLeDiff → jv, reduceLT → jk, reduceEqDiff → jx
open Bool renaming or_eq_false_iff → jp, or_eq_true → jQ, and_eq_true → jJ
open Int renaming toNat_natCast → jW, natCast_nonneg → jY
open Go.Proofs.Tryz renaming prog → jV
namespace Go.Proofs.YtbkaaakphpbmiaaGreat
open Go Go.SL
set_option maxHeartbeats 1000000
theorem zXX (a:Sl Int) (h:Hp) (ha:a.Ok h) (hb:Blk.blk a≤1048576):Ct jV 18 [a.val] h fun v h'=>∃ s:Sl Int,v=s.val∧Con.con s=Con.con a∧s.Ok h'∧Mine h h' s:=by
 have hl:a.l.length≤1048576:=Nat.le_trans (Nat.le_add_right _ _) hb
 refine zdn (fun A W=>by simp) Tryz.func18 rfl rfl (by simp) fun W0=>?_
 refine Wk ?_
 refine ⟨by simp only [maxLen];omega,by omega,?_⟩
 refine Wk ?_
 refine zde (ι:=Nat) (fun k=>⟨[(0,true,.c (.v a.val)),(3,true,.c (.s 0)),(4,true,.c (.v (.int .i64 k)))],[(0,.row 3 1 a.l.length (conv (a.l.take k) a.l.length [.int .i64 0]))],h,1⟩) (fun k=>k≤a.l.length) (fun k=>a.l.length - k) 0 (Nat.zero_le _) ?_ ?_
 ·refine Evs ?_
  exact ⟨rfl,zOB (zOF (α:=Int) (z:=#[.int .i64 0]) (by decide))⟩
 intro k hk
 refine Wk ?_
 refine zc9 rfl (fun hd=>?_) (fun hd=>?_)
 ·have hlt:=zjH hd
  have hle:(a.l.take k).length=k:=by rw [List.length_take];omega
  repeat' first|refine Wa ?_|(simp only [go_sem,jq,jj,jy,jv,jk,jx,zkv ha hlt,ha.some hlt,hlt,jW];try rfl)|refine Wb ?_|fail
  refine ⟨?_,?_⟩
  ·rw [zOC (by omega) rfl];exact Nat.le_trans (Nat.le_of_eq (by simp only [Nat.add_mul])) (Nat.mul_le_mul_right 1 (show k+1≤a.l.length from hlt))
  refine Wk ?_
  exact ⟨k+1,hlt,by omega,zjB (zjA hlt (by omega)),zOB (by rw [List.take_succ_eq_append_getElem hlt];exact zOE hle hlt rfl)⟩
 ·have hge:=zjI hd
  refine zc6 ?_
  refine Evs ?_
  refine zlE 0 a.l rfl rfl rfl (by rw [List.take_of_length_le hge];exact zOD (Nat.le_refl _)) (by decide) (fun x hx=>by obtain ⟨i,hi,rfl⟩:=List.getElem_of_mem hx;exact ha.el hi) h (Hp.le_refl _) (Mines.flat (fun _=>rfl) (fun _=>trivial)) fun s h' e1 e2 e3 e4=>?_
  refine Wk ?_
  exact ⟨s,rfl,by rw [zkq,zkq,e1],e2,e4⟩
theorem zXY (c:DPart) (h:Hp):Ct jV 265 [.agg #[.int .i64 c.amp,.int .i64 c.period,.int .i64 c.phase]] h fun v h'=>v=.agg #[.int .i64 c.amp,.int .i64 c.period,.int .i64 c.phase]∧h'=h:=by
 refine zdn (fun A W=>by simp) Tryz.func265 rfl rfl (by simp) fun W0=>?_
 exact Wk0
theorem zXZ (c:DPoint) (h:Hp):Ct jV 218 [.agg #[.string c.name,.bool c.wait]] h fun v h'=>v=.agg #[.string c.name,.bool c.wait]∧h'=h:=by
 refine zdn (fun A W=>by simp) Tryz.func218 rfl rfl (by simp) fun W0=>?_
 exact Wk0
theorem zX0 (c:DRegime) (h:Hp):Ct jV 70 [.agg #[.int .i64 c.gap,.bool c.noMeet]] h fun v h'=>v=.agg #[.int .i64 c.gap,.bool c.noMeet]∧h'=h:=by
 refine zdn (fun A W=>by simp) Tryz.func70 rfl rfl (by simp) fun W0=>?_
 exact Wk0
theorem zX1 (c:DSegment) (h:Hp):Ct jV 219 [.agg #[.int .i64 c.a,.int .i64 c.b,.int .i64 c.depth,.int .i64 c.minutes,.bool c.meet]] h fun v h'=>v=.agg #[.int .i64 c.a,.int .i64 c.b,.int .i64 c.depth,.int .i64 c.minutes,.bool c.meet]∧h'=h:=by
 refine zdn (fun A W=>by simp) Tryz.func219 rfl rfl (by simp) fun W0=>?_
 exact Wk0
theorem zX2 (c:DShip) (h:Hp):Ct jV 147 [.agg #[.string c.name,.int .i64 c.length,.int .i64 c.draught,.int .i64 c.line,.int .i64 c.tugs,.bool c.slow]] h fun v h'=>v=.agg #[.string c.name,.int .i64 c.length,.int .i64 c.draught,.int .i64 c.line,.int .i64 c.tugs,.bool c.slow]∧h'=h:=by
 refine zdn (fun A W=>by simp) Tryz.func147 rfl rfl (by simp) fun W0=>?_
 exact Wk0
theorem zX3 (c:DSurge) (h:Hp):Ct jV 217 [.agg #[.int .i64 c.src,.int .i64 c.low,.int .i64 c.high]] h fun v h'=>v=.agg #[.int .i64 c.src,.int .i64 c.low,.int .i64 c.high]∧h'=h:=by
 refine zdn (fun A W=>by simp) Tryz.func217 rfl rfl (by simp) fun W0=>?_
 exact Wk0
theorem zX5 (c:DCrew) (h:Hp) (hc:Enc.ok h c) (hb:Blk.blk c≤1048576):Ct jV 71 [.agg #[.int .i64 c.tugs,.int .i64 c.pilots,.int .i64 c.rest,c.moves.val]] h fun v h'=>∃ d:DCrew,v=.agg #[.int .i64 d.tugs,.int .i64 d.pilots,.int .i64 d.rest,d.moves.val]∧Con.con d=Con.con c∧Enc.ok h' d∧Mine h h' d:=by
 rw [zkF] at hb
 obtain ⟨o_tugs,o_pilots,o_rest,o_moves⟩:=hc
 refine zdn (fun A W=>by simp) Tryz.func71 rfl rfl (by simp) fun W0=>?_
 refine Wk ?_
 refine zkj (zXX _ _ o_moves (by omega)) rfl ?_
 rintro v h_0 le_0 ⟨s_0,rfl,e_0,ok_0,m_0⟩
 refine Wk ?_
 exact ⟨⟨c.tugs,c.pilots,c.rest,s_0⟩,rfl,by rw [zkE,zkE];simp only [e_0],⟨o_tugs,o_pilots,o_rest,ok_0⟩,News.mine (m_0.1) m_0.news⟩
theorem zX6 (a:Sl DPart) (h:Hp) (ha:a.Ok h) (hb:Blk.blk a≤1048576):Ct jV 216 [a.val] h fun v h'=>∃ s:Sl DPart,v=s.val∧Con.con s=Con.con a∧s.Ok h'∧Mine h h' s:=by
 have hl:a.l.length≤1048576:=Nat.le_trans (Nat.le_add_right _ _) hb
 refine zdn (fun A W=>by simp) Tryz.func216 rfl rfl (by simp) fun W0=>?_
 refine Wk ?_
 refine ⟨by simp only [maxLen];omega,by omega,?_⟩
 refine Wk ?_
 refine zde (ι:=Nat) (fun k=>⟨[(0,true,.c (.v a.val)),(3,true,.c (.s 0)),(4,true,.c (.v (.int .i64 k)))],[(0,.row 297 3 a.l.length (conv (a.l.take k) a.l.length [.int .i64 0,.int .i64 0,.int .i64 0]))],h,1⟩) (fun k=>k≤a.l.length) (fun k=>a.l.length - k) 0 (Nat.zero_le _) ?_ ?_
 ·refine Evs ?_
  exact ⟨rfl,zOB (zOF (α:=DPart) (z:=#[.int .i64 0,.int .i64 0,.int .i64 0]) (by decide))⟩
 intro k hk
 refine Wk ?_
 refine zc9 rfl (fun hd=>?_) (fun hd=>?_)
 ·have hlt:=zjH hd
  have hle:(a.l.take k).length=k:=by rw [List.length_take];omega
  repeat' first|refine Wa ?_|refine zhF (fun _=>zXY _ _) ?_|(simp only [go_sem,jq,jj,jy,jv,jk,jx,zkH ha hlt,ha.some hlt,hlt,jW];try rfl)|refine Wb ?_|fail
  refine ⟨?_,?_⟩
  ·rw [zOC (by omega) rfl];exact Nat.le_trans (Nat.le_of_eq (by simp only [Nat.add_mul])) (Nat.mul_le_mul_right 3 (show k+1≤a.l.length from hlt))
  refine Wk ?_
  exact ⟨k+1,hlt,by omega,zjB (zjA hlt (by omega)),zOB (by rw [List.take_succ_eq_append_getElem hlt];exact zOE hle hlt rfl)⟩
 ·have hge:=zjI hd
  refine zc6 ?_
  refine Evs ?_
  refine zlE 0 a.l rfl rfl rfl (by rw [List.take_of_length_le hge];exact zOD (Nat.le_refl _)) (by decide) (fun x hx=>by obtain ⟨i,hi,rfl⟩:=List.getElem_of_mem hx;exact ha.el hi) h (Hp.le_refl _) (Mines.flat (fun _=>rfl) (fun _=>trivial)) fun s h' e1 e2 e3 e4=>?_
  refine Wk ?_
  exact ⟨s,rfl,by rw [zkq,zkq,e1],e2,e4⟩
theorem zX7 (a:Sl DPoint) (h:Hp) (ha:a.Ok h) (hb:Blk.blk a≤1048576):Ct jV 145 [a.val] h fun v h'=>∃ s:Sl DPoint,v=s.val∧Con.con s=Con.con a∧s.Ok h'∧Mine h h' s:=by
 have hl:a.l.length≤1048576:=Nat.le_trans (Nat.le_add_right _ _) hb
 refine zdn (fun A W=>by simp) Tryz.func145 rfl rfl (by simp) fun W0=>?_
 refine Wk ?_
 refine ⟨by simp only [maxLen];omega,by omega,?_⟩
 refine Wk ?_
 refine zde (ι:=Nat) (fun k=>⟨[(0,true,.c (.v a.val)),(3,true,.c (.s 0)),(4,true,.c (.v (.int .i64 k)))],[(0,.row 244 2 a.l.length (conv (a.l.take k) a.l.length [.string ByteArray.empty,.bool false]))],h,1⟩) (fun k=>k≤a.l.length) (fun k=>a.l.length - k) 0 (Nat.zero_le _) ?_ ?_
 ·refine Evs ?_
  exact ⟨rfl,zOB (zOF (α:=DPoint) (z:=#[.string ByteArray.empty,.bool false]) (by decide))⟩
 intro k hk
 refine Wk ?_
 refine zc9 rfl (fun hd=>?_) (fun hd=>?_)
 ·have hlt:=zjH hd
  have hle:(a.l.take k).length=k:=by rw [List.length_take];omega
  repeat' first|refine Wa ?_|refine zhF (fun _=>zXZ _ _) ?_|(simp only [go_sem,jq,jj,jy,jv,jk,jx,zkS ha hlt,ha.some hlt,hlt,jW];try rfl)|refine Wb ?_|fail
  refine ⟨?_,?_⟩
  ·rw [zOC (by omega) rfl];exact Nat.le_trans (Nat.le_of_eq (by simp only [Nat.add_mul])) (Nat.mul_le_mul_right 2 (show k+1≤a.l.length from hlt))
  refine Wk ?_
  exact ⟨k+1,hlt,by omega,zjB (zjA hlt (by omega)),zOB (by rw [List.take_succ_eq_append_getElem hlt];exact zOE hle hlt rfl)⟩
 ·have hge:=zjI hd
  refine zc6 ?_
  refine Evs ?_
  refine zlE 0 a.l rfl rfl rfl (by rw [List.take_of_length_le hge];exact zOD (Nat.le_refl _)) (by decide) (fun x hx=>by obtain ⟨i,hi,rfl⟩:=List.getElem_of_mem hx;exact ha.el hi) h (Hp.le_refl _) (Mines.flat (fun _=>rfl) (fun _=>trivial)) fun s h' e1 e2 e3 e4=>?_
  refine Wk ?_
  exact ⟨s,rfl,by rw [zkq,zkq,e1],e2,e4⟩
theorem zX8 (a:Sl DSegment) (h:Hp) (ha:a.Ok h) (hb:Blk.blk a≤1048576):Ct jV 146 [a.val] h fun v h'=>∃ s:Sl DSegment,v=s.val∧Con.con s=Con.con a∧s.Ok h'∧Mine h h' s:=by
 have hl:a.l.length≤1048576:=Nat.le_trans (Nat.le_add_right _ _) hb
 refine zdn (fun A W=>by simp) Tryz.func146 rfl rfl (by simp) fun W0=>?_
 refine Wk ?_
 refine ⟨by simp only [maxLen];omega,by omega,?_⟩
 refine Wk ?_
 refine zde (ι:=Nat) (fun k=>⟨[(0,true,.c (.v a.val)),(3,true,.c (.s 0)),(4,true,.c (.v (.int .i64 k)))],[(0,.row 230 5 a.l.length (conv (a.l.take k) a.l.length [.int .i64 0,.int .i64 0,.int .i64 0,.int .i64 0,.bool false]))],h,1⟩) (fun k=>k≤a.l.length) (fun k=>a.l.length - k) 0 (Nat.zero_le _) ?_ ?_
 ·refine Evs ?_
  exact ⟨rfl,zOB (zOF (α:=DSegment) (z:=#[.int .i64 0,.int .i64 0,.int .i64 0,.int .i64 0,.bool false]) (by decide))⟩
 intro k hk
 refine Wk ?_
 refine zc9 rfl (fun hd=>?_) (fun hd=>?_)
 ·have hlt:=zjH hd
  have hle:(a.l.take k).length=k:=by rw [List.length_take];omega
  repeat' first|refine Wa ?_|refine zhF (fun _=>zX1 _ _) ?_|(simp only [go_sem,jq,jj,jy,jv,jk,jx,zkU ha hlt,ha.some hlt,hlt,jW];try rfl)|refine Wb ?_|fail
  refine ⟨?_,?_⟩
  ·rw [zOC (by omega) rfl];exact Nat.le_trans (Nat.le_of_eq (by simp only [Nat.add_mul])) (Nat.mul_le_mul_right 5 (show k+1≤a.l.length from hlt))
  refine Wk ?_
  exact ⟨k+1,hlt,by omega,zjB (zjA hlt (by omega)),zOB (by rw [List.take_succ_eq_append_getElem hlt];exact zOE hle hlt rfl)⟩
 ·have hge:=zjI hd
  refine zc6 ?_
  refine Evs ?_
  refine zlE 0 a.l rfl rfl rfl (by rw [List.take_of_length_le hge];exact zOD (Nat.le_refl _)) (by decide) (fun x hx=>by obtain ⟨i,hi,rfl⟩:=List.getElem_of_mem hx;exact ha.el hi) h (Hp.le_refl _) (Mines.flat (fun _=>rfl) (fun _=>trivial)) fun s h' e1 e2 e3 e4=>?_
  refine Wk ?_
  exact ⟨s,rfl,by rw [zkq,zkq,e1],e2,e4⟩
theorem zX9 (a:Sl DShip) (h:Hp) (ha:a.Ok h) (hb:Blk.blk a≤1048576):Ct jV 69 [a.val] h fun v h'=>∃ s:Sl DShip,v=s.val∧Con.con s=Con.con a∧s.Ok h'∧Mine h h' s:=by
 have hl:a.l.length≤1048576:=Nat.le_trans (Nat.le_add_right _ _) hb
 refine zdn (fun A W=>by simp) Tryz.func69 rfl rfl (by simp) fun W0=>?_
 refine Wk ?_
 refine ⟨by simp only [maxLen];omega,by omega,?_⟩
 refine Wk ?_
 refine zde (ι:=Nat) (fun k=>⟨[(0,true,.c (.v a.val)),(3,true,.c (.s 0)),(4,true,.c (.v (.int .i64 k)))],[(0,.row 157 6 a.l.length (conv (a.l.take k) a.l.length [.string ByteArray.empty,.int .i64 0,.int .i64 0,.int .i64 0,.int .i64 0,.bool false]))],h,1⟩) (fun k=>k≤a.l.length) (fun k=>a.l.length - k) 0 (Nat.zero_le _) ?_ ?_
 ·refine Evs ?_
  exact ⟨rfl,zOB (zOF (α:=DShip) (z:=#[.string ByteArray.empty,.int .i64 0,.int .i64 0,.int .i64 0,.int .i64 0,.bool false]) (by decide))⟩
 intro k hk
 refine Wk ?_
 refine zc9 rfl (fun hd=>?_) (fun hd=>?_)
 ·have hlt:=zjH hd
  have hle:(a.l.take k).length=k:=by rw [List.length_take];omega
  repeat' first|refine Wa ?_|refine zhF (fun _=>zX2 _ _) ?_|(simp only [go_sem,jq,jj,jy,jv,jk,jx,zk0 ha hlt,ha.some hlt,hlt,jW];try rfl)|refine Wb ?_|fail
  refine ⟨?_,?_⟩
  ·rw [zOC (by omega) rfl];exact Nat.le_trans (Nat.le_of_eq (by simp only [Nat.add_mul])) (Nat.mul_le_mul_right 6 (show k+1≤a.l.length from hlt))
  refine Wk ?_
  exact ⟨k+1,hlt,by omega,zjB (zjA hlt (by omega)),zOB (by rw [List.take_succ_eq_append_getElem hlt];exact zOE hle hlt rfl)⟩
 ·have hge:=zjI hd
  refine zc6 ?_
  refine Evs ?_
  refine zlE 0 a.l rfl rfl rfl (by rw [List.take_of_length_le hge];exact zOD (Nat.le_refl _)) (by decide) (fun x hx=>by obtain ⟨i,hi,rfl⟩:=List.getElem_of_mem hx;exact ha.el hi) h (Hp.le_refl _) (Mines.flat (fun _=>rfl) (fun _=>trivial)) fun s h' e1 e2 e3 e4=>?_
  refine Wk ?_
  exact ⟨s,rfl,by rw [zkq,zkq,e1],e2,e4⟩
theorem zYa (a:Sl DSurge) (h:Hp) (ha:a.Ok h) (hb:Blk.blk a≤1048576):Ct jV 144 [a.val] h fun v h'=>∃ s:Sl DSurge,v=s.val∧Con.con s=Con.con a∧s.Ok h'∧Mine h h' s:=by
 have hl:a.l.length≤1048576:=Nat.le_trans (Nat.le_add_right _ _) hb
 refine zdn (fun A W=>by simp) Tryz.func144 rfl rfl (by simp) fun W0=>?_
 refine Wk ?_
 refine ⟨by simp only [maxLen];omega,by omega,?_⟩
 refine Wk ?_
 refine zde (ι:=Nat) (fun k=>⟨[(0,true,.c (.v a.val)),(3,true,.c (.s 0)),(4,true,.c (.v (.int .i64 k)))],[(0,.row 125 3 a.l.length (conv (a.l.take k) a.l.length [.int .i64 0,.int .i64 0,.int .i64 0]))],h,1⟩) (fun k=>k≤a.l.length) (fun k=>a.l.length - k) 0 (Nat.zero_le _) ?_ ?_
 ·refine Evs ?_
  exact ⟨rfl,zOB (zOF (α:=DSurge) (z:=#[.int .i64 0,.int .i64 0,.int .i64 0]) (by decide))⟩
 intro k hk
 refine Wk ?_
 refine zc9 rfl (fun hd=>?_) (fun hd=>?_)
 ·have hlt:=zjH hd
  have hle:(a.l.take k).length=k:=by rw [List.length_take];omega
  repeat' first|refine Wa ?_|refine zhF (fun _=>zX3 _ _) ?_|(simp only [go_sem,jq,jj,jy,jv,jk,jx,zkM ha hlt,ha.some hlt,hlt,jW];try rfl)|refine Wb ?_|fail
  refine ⟨?_,?_⟩
  ·rw [zOC (by omega) rfl];exact Nat.le_trans (Nat.le_of_eq (by simp only [Nat.add_mul])) (Nat.mul_le_mul_right 3 (show k+1≤a.l.length from hlt))
  refine Wk ?_
  exact ⟨k+1,hlt,by omega,zjB (zjA hlt (by omega)),zOB (by rw [List.take_succ_eq_append_getElem hlt];exact zOE hle hlt rfl)⟩
 ·have hge:=zjI hd
  refine zc6 ?_
  refine Evs ?_
  refine zlE 0 a.l rfl rfl rfl (by rw [List.take_of_length_le hge];exact zOD (Nat.le_refl _)) (by decide) (fun x hx=>by obtain ⟨i,hi,rfl⟩:=List.getElem_of_mem hx;exact ha.el hi) h (Hp.le_refl _) (Mines.flat (fun _=>rfl) (fun _=>trivial)) fun s h' e1 e2 e3 e4=>?_
  refine Wk ?_
  exact ⟨s,rfl,by rw [zkq,zkq,e1],e2,e4⟩
theorem zYb (c:DChart) (h:Hp) (hc:Enc.ok h c) (hb:Blk.blk c≤1048576):Ct jV 68 [.agg #[c.points.val,c.segments.val]] h fun v h'=>∃ d:DChart,v=.agg #[d.points.val,d.segments.val]∧Con.con d=Con.con c∧Enc.ok h' d∧Mine h h' d:=by
 rw [zkX] at hb
 obtain ⟨o_points,o_segments⟩:=hc
 refine zdn (fun A W=>by simp) Tryz.func68 rfl rfl (by simp) fun W0=>?_
 refine Wk ?_
 refine zkj (zX7 _ _ o_points (by omega)) rfl ?_
 rintro v h_0 le_0 ⟨s_0,rfl,e_0,ok_0,m_0⟩
 refine Wk ?_
 refine zkj (zX8 _ _ (o_segments.mono le_0) (by omega)) rfl ?_
 rintro v h_1 le_1 ⟨s_1,rfl,e_1,ok_1,m_1⟩
 refine Wk ?_
 exact ⟨⟨s_0,s_1⟩,rfl,by rw [zkW,zkW];simp only [e_0,e_1],⟨ok_0.mono le_1,ok_1⟩,News.mine ⟨(Mine.on le_1 ok_0 m_0).1,m_1.1⟩ (m_0.news.append le_0 le_1 m_1.news)⟩
theorem zYc (c:DTide) (h:Hp) (hc:Enc.ok h c) (hb:Blk.blk c≤1048576):Ct jV 143 [.agg #[.int .i64 c.mean,c.parts.val]] h fun v h'=>∃ d:DTide,v=.agg #[.int .i64 d.mean,d.parts.val]∧Con.con d=Con.con c∧Enc.ok h' d∧Mine h h' d:=by
 rw [zkK] at hb
 obtain ⟨o_mean,o_parts⟩:=hc
 refine zdn (fun A W=>by simp) Tryz.func143 rfl rfl (by simp) fun W0=>?_
 refine Wk ?_
 refine zkj (zX6 _ _ o_parts (by omega)) rfl ?_
 rintro v h_0 le_0 ⟨s_0,rfl,e_0,ok_0,m_0⟩
 refine Wk ?_
 exact ⟨⟨c.mean,s_0⟩,rfl,by rw [zkJ,zkJ];simp only [e_0],⟨o_mean,ok_0⟩,News.mine (m_0.1) m_0.news⟩
theorem zYd (c:DForecast) (h:Hp) (hc:Enc.ok h c) (hb:Blk.blk c≤1048576):Ct jV 67 [.agg #[.int .i64 c.tide.mean,c.tide.parts.val,c.surges.val]] h fun v h'=>∃ d:DForecast,v=.agg #[.int .i64 d.tide.mean,d.tide.parts.val,d.surges.val]∧Con.con d=Con.con c∧Enc.ok h' d∧Mine h h' d:=by
 rw [zkP] at hb
 obtain ⟨o_tide,o_surges⟩:=hc
 refine zdn (fun A W=>by simp) Tryz.func67 rfl rfl (by simp) fun W0=>?_
 refine Wk ?_
 refine zkj (zYc _ _ o_tide (by omega)) rfl ?_
 rintro v h_0 le_0 ⟨s_0,rfl,e_0,ok_0,m_0⟩
 refine Wk ?_
 refine zkj (zYa _ _ (o_surges.mono le_0) (by omega)) rfl ?_
 rintro v h_1 le_1 ⟨s_1,rfl,e_1,ok_1,m_1⟩
 refine Wk ?_
 exact ⟨⟨s_0,s_1⟩,rfl,by rw [zkO,zkO];simp only [e_0,e_1],⟨Enc.mono le_1 ok_0,ok_1⟩,News.mine ⟨(Mine.on le_1 ok_0 m_0).1,m_1.1⟩ (m_0.news.append le_0 le_1 m_1.news)⟩
theorem zYe (c:DHarbour) (h:Hp) (hc:Enc.ok h c) (hb:Blk.blk c≤1048576):Ct jV 16 [.agg #[.int .i64 c.forecast.tide.mean,c.forecast.tide.parts.val,c.forecast.surges.val,c.chart.points.val,c.chart.segments.val,c.fleet.val,.int .i64 c.regime.gap,.bool c.regime.noMeet,.int .i64 c.crew.tugs,.int .i64 c.crew.pilots,.int .i64 c.crew.rest,c.crew.moves.val]] h fun v h'=>∃ d:DHarbour,v=.agg #[.int .i64 d.forecast.tide.mean,d.forecast.tide.parts.val,d.forecast.surges.val,d.chart.points.val,d.chart.segments.val,d.fleet.val,.int .i64 d.regime.gap,.bool d.regime.noMeet,.int .i64 d.crew.tugs,.int .i64 d.crew.pilots,.int .i64 d.crew.rest,d.crew.moves.val]∧Con.con d=Con.con c∧Enc.ok h' d∧Mine h h' d:=by
 rw [zk4] at hb
 obtain ⟨o_forecast,o_chart,o_fleet,o_regime,o_crew⟩:=hc
 refine zdn (fun A W=>by simp) Tryz.func16 rfl rfl (by simp) fun W0=>?_
 refine Wk ?_
 refine zkj (zYd _ _ o_forecast (by omega)) rfl ?_
 rintro v h_0 le_0 ⟨s_0,rfl,e_0,ok_0,m_0⟩
 refine Wk ?_
 refine zkj (zYb _ _ (Enc.mono le_0 o_chart) (by omega)) rfl ?_
 rintro v h_1 le_1 ⟨s_1,rfl,e_1,ok_1,m_1⟩
 refine Wk ?_
 refine zkj (zX9 _ _ (o_fleet.mono (Hp.le_trans le_0 le_1)) (by omega)) rfl ?_
 rintro v h_2 le_2 ⟨s_2,rfl,e_2,ok_2,m_2⟩
 refine Wk ?_
 refine zhF (fun _=>zX0 _ _) ?_
 refine Wk ?_
 refine zkj (zX5 _ _ (Enc.mono (Hp.le_trans (Hp.le_trans le_0 le_1) le_2) o_crew) (by omega)) rfl ?_
 rintro v h_3 le_3 ⟨s_3,rfl,e_3,ok_3,m_3⟩
 refine Wk ?_
 exact ⟨⟨s_0,s_1,s_2,c.regime,s_3⟩,rfl,by rw [zk3,zk3];simp only [e_0,e_1,e_2,e_3],⟨Enc.mono (Hp.le_trans (Hp.le_trans le_1 le_2) le_3) ok_0,Enc.mono (Hp.le_trans le_2 le_3) ok_1,ok_2.mono le_3,o_regime,ok_3⟩,News.mine ⟨(Mine.on (Hp.le_trans (Hp.le_trans le_1 le_2) le_3) ok_0 m_0).1,(Mine.on (Hp.le_trans le_2 le_3) ok_1 m_1).1,(Mine.on le_3 ok_2 m_2).1,m_3.1⟩ (((m_0.news.append le_0 le_1 m_1.news).append (Hp.le_trans le_0 le_1) le_2 m_2.news).append (Hp.le_trans (Hp.le_trans le_0 le_1) le_2) le_3 m_3.news)⟩
theorem zYg (a b:Sl Int) (h:Hp) (ha:a.Ok h) (hb:b.Ok h):Ct jV 23 [a.val,b.val] h fun v h'=>v=.bool (decide (Con.con a=Con.con b))∧h'=h:=by
 have hl:=ha.max
 have hA:(Con.con a).length=a.l.length:=List.length_map ..
 have hB:(Con.con b).length=b.l.length:=List.length_map ..
 refine zdn (fun A W=>by simp) Tryz.func23 rfl rfl (by simp) fun W0=>?_
 refine Wk ?_
 refine zc9 rfl (fun hc=>?_) (fun hc=>?_)
 ·refine Wk ?_
  exact zjF fun e=>zjD hc (by rw [← hA,← hB,e])
 have hlen:a.l.length=b.l.length:=by have:=zjE hc;omega
 refine Wk ?_
 refine zde (ι:=Nat) (fun k=>⟨[(0,true,.c (.v a.val)),(1,true,.c (.v b.val)),(5,true,.c (.v (.int .i64 k)))],[],h,0⟩) (fun k=>k≤a.l.length∧(Con.con a).take k=(Con.con b).take k) (fun k=>a.l.length - k) 0 ⟨Nat.zero_le _,rfl⟩ ?_ ?_
 ·refine Evs ?_
  rfl
 intro k hk
 refine Wk ?_
 refine zc9 rfl (fun hc=>?_) (fun hc=>?_)
 ·have hlt:=zjH hc
  have hlt':k < b.l.length:=by omega
  have gA:(Con.con a)[k]'(by omega)=Con.con a.l[k]:=List.getElem_map ..
  have gB:(Con.con b)[k]'(by omega)=Con.con b.l[k]:=List.getElem_map ..
  refine Wk ?_
  refine zi8 rfl (by kernel_rfl) ?_
  simp only [go_sem,jq,jj,jy,jv,jk,jx,zkv ha hlt,ha.some hlt,zkv hb hlt',hb.some hlt',hlt,hlt']
  refine zc9 rfl (fun hd=>?_) (fun hd=>?_)
  ·refine Wk ?_
   refine zjF fun e=>(zjD hd:¬ Con.con a.l[k]=Con.con b.l[k]) ?_
   rw [← gA,← gB];simp only [e]
  ·refine Wk ?_
   exact ⟨k+1,⟨hlt,zjC (by omega) (by omega) hk.2 (by rw [gA,gB];exact zjE hd)⟩,by omega,zjB (zjA hlt (by omega))⟩
 ·have hge:=zjI hc
  refine Wk ?_
  refine zjG ?_
  have:=hk.2
  rwa [List.take_of_length_le (by omega),List.take_of_length_le (by omega)] at this
theorem zYh (c d:DPart) (h:Hp) (hc:Enc.ok h c) (hd:Enc.ok h d):Ct jV 267 [.agg #[.int .i64 c.amp,.int .i64 c.period,.int .i64 c.phase],.agg #[.int .i64 d.amp,.int .i64 d.period,.int .i64 d.phase]] h fun v h'=>v=.bool (decide (Con.con c=Con.con d))∧h'=h:=by
 obtain ⟨oc_amp,oc_period,oc_phase⟩:=hc
 obtain ⟨od_amp,od_period,od_phase⟩:=hd
 refine zdn (fun A W=>by simp) Tryz.func267 rfl rfl (by simp) fun W0=>?_
 refine Wk ?_
 refine zc9 rfl (fun h0=>?_) (fun h0=>?_)
 ·refine Wk ?_
  exact zjF fun e=>zjD h0 (congrArg DPart.amp e)
 refine Wk ?_
 refine zc9 rfl (fun h1=>?_) (fun h1=>?_)
 ·refine Wk ?_
  exact zjF fun e=>zjD h1 (congrArg DPart.period e)
 refine Wk ?_
 refine zc9 rfl (fun h2=>?_) (fun h2=>?_)
 ·refine Wk ?_
  exact zjF fun e=>zjD h2 (congrArg DPart.phase e)
 refine Wk ?_
 refine zjG ?_
 obtain ⟨c_amp,c_period,c_phase⟩:=c
 obtain ⟨d_amp,d_period,d_phase⟩:=d
 show DPart.mk c_amp c_period c_phase=DPart.mk d_amp d_period d_phase
 rw [DPart.mk.injEq]
 exact ⟨zjE h0,zjE h1,zjE h2⟩
theorem zYj (c d:DPoint) (h:Hp) (hc:Enc.ok h c) (hd:Enc.ok h d):Ct jV 224 [.agg #[.string c.name,.bool c.wait],.agg #[.string d.name,.bool d.wait]] h fun v h'=>v=.bool (decide (Con.con c=Con.con d))∧h'=h:=by
 have oc_name:=hc
 have od_name:=hd
 refine zdn (fun A W=>by simp) Tryz.func224 rfl rfl (by simp) fun W0=>?_
 refine Wk ?_
 refine zc9 rfl (fun h0=>?_) (fun h0=>?_)
 ·refine Wk ?_
  exact zjF fun e=>of_decide_eq_false (by simpa only [Bool.not_eq_true'] using h0) (show c.name=d.name from (congrArg DPoint.name e))
 refine Wk ?_
 refine zc9 rfl (fun h1=>?_) (fun h1=>?_)
 ·refine Wk ?_
  exact zjF fun e=>zjD h1 (congrArg DPoint.wait e)
 refine Wk ?_
 refine zjG ?_
 obtain ⟨c_name,c_wait⟩:=c
 obtain ⟨d_name,d_wait⟩:=d
 show DPoint.mk c_name c_wait=DPoint.mk d_name d_wait
 rw [DPoint.mk.injEq]
 exact ⟨of_decide_eq_true (by simpa only [Bool.not_eq_false'] using h0),zjE h1⟩
theorem zYk (c d:DRegime) (h:Hp) (hc:Enc.ok h c) (hd:Enc.ok h d):Ct jV 80 [.agg #[.int .i64 c.gap,.bool c.noMeet],.agg #[.int .i64 d.gap,.bool d.noMeet]] h fun v h'=>v=.bool (decide (Con.con c=Con.con d))∧h'=h:=by
 have oc_gap:=hc
 have od_gap:=hd
 refine zdn (fun A W=>by simp) Tryz.func80 rfl rfl (by simp) fun W0=>?_
 refine Wk ?_
 refine zc9 rfl (fun h0=>?_) (fun h0=>?_)
 ·refine Wk ?_
  exact zjF fun e=>zjD h0 (congrArg DRegime.gap e)
 refine Wk ?_
 refine zc9 rfl (fun h1=>?_) (fun h1=>?_)
 ·refine Wk ?_
  exact zjF fun e=>zjD h1 (congrArg DRegime.noMeet e)
 refine Wk ?_
 refine zjG ?_
 obtain ⟨c_gap,c_noMeet⟩:=c
 obtain ⟨d_gap,d_noMeet⟩:=d
 show DRegime.mk c_gap c_noMeet=DRegime.mk d_gap d_noMeet
 rw [DRegime.mk.injEq]
 exact ⟨zjE h0,zjE h1⟩
theorem zYl (c d:DSegment) (h:Hp) (hc:Enc.ok h c) (hd:Enc.ok h d):Ct jV 225 [.agg #[.int .i64 c.a,.int .i64 c.b,.int .i64 c.depth,.int .i64 c.minutes,.bool c.meet],.agg #[.int .i64 d.a,.int .i64 d.b,.int .i64 d.depth,.int .i64 d.minutes,.bool d.meet]] h fun v h'=>v=.bool (decide (Con.con c=Con.con d))∧h'=h:=by
 obtain ⟨oc_a,oc_b,oc_depth,oc_minutes⟩:=hc
 obtain ⟨od_a,od_b,od_depth,od_minutes⟩:=hd
 refine zdn (fun A W=>by simp) Tryz.func225 rfl rfl (by simp) fun W0=>?_
 refine Wk ?_
 refine zc9 rfl (fun h0=>?_) (fun h0=>?_)
 ·refine Wk ?_
  exact zjF fun e=>zjD h0 (congrArg DSegment.a e)
 refine Wk ?_
 refine zc9 rfl (fun h1=>?_) (fun h1=>?_)
 ·refine Wk ?_
  exact zjF fun e=>zjD h1 (congrArg DSegment.b e)
 refine Wk ?_
 refine zc9 rfl (fun h2=>?_) (fun h2=>?_)
 ·refine Wk ?_
  exact zjF fun e=>zjD h2 (congrArg DSegment.depth e)
 refine Wk ?_
 refine zc9 rfl (fun h3=>?_) (fun h3=>?_)
 ·refine Wk ?_
  exact zjF fun e=>zjD h3 (congrArg DSegment.minutes e)
 refine Wk ?_
 refine zc9 rfl (fun h4=>?_) (fun h4=>?_)
 ·refine Wk ?_
  exact zjF fun e=>zjD h4 (congrArg DSegment.meet e)
 refine Wk ?_
 refine zjG ?_
 obtain ⟨c_a,c_b,c_depth,c_minutes,c_meet⟩:=c
 obtain ⟨d_a,d_b,d_depth,d_minutes,d_meet⟩:=d
 show DSegment.mk c_a c_b c_depth c_minutes c_meet=DSegment.mk d_a d_b d_depth d_minutes d_meet
 rw [DSegment.mk.injEq]
 exact ⟨zjE h0,zjE h1,zjE h2,zjE h3,zjE h4⟩
theorem zYm (c d:DShip) (h:Hp) (hc:Enc.ok h c) (hd:Enc.ok h d):Ct jV 157 [.agg #[.string c.name,.int .i64 c.length,.int .i64 c.draught,.int .i64 c.line,.int .i64 c.tugs,.bool c.slow],.agg #[.string d.name,.int .i64 d.length,.int .i64 d.draught,.int .i64 d.line,.int .i64 d.tugs,.bool d.slow]] h fun v h'=>v=.bool (decide (Con.con c=Con.con d))∧h'=h:=by
 obtain ⟨oc_name,oc_length,oc_draught,oc_line,oc_tugs⟩:=hc
 obtain ⟨od_name,od_length,od_draught,od_line,od_tugs⟩:=hd
 refine zdn (fun A W=>by simp) Tryz.func157 rfl rfl (by simp) fun W0=>?_
 refine Wk ?_
 refine zc9 rfl (fun h0=>?_) (fun h0=>?_)
 ·refine Wk ?_
  exact zjF fun e=>of_decide_eq_false (by simpa only [Bool.not_eq_true'] using h0) (show c.name=d.name from (congrArg DShip.name e))
 refine Wk ?_
 refine zc9 rfl (fun h1=>?_) (fun h1=>?_)
 ·refine Wk ?_
  exact zjF fun e=>zjD h1 (congrArg DShip.length e)
 refine Wk ?_
 refine zc9 rfl (fun h2=>?_) (fun h2=>?_)
 ·refine Wk ?_
  exact zjF fun e=>zjD h2 (congrArg DShip.draught e)
 refine Wk ?_
 refine zc9 rfl (fun h3=>?_) (fun h3=>?_)
 ·refine Wk ?_
  exact zjF fun e=>zjD h3 (congrArg DShip.line e)
 refine Wk ?_
 refine zc9 rfl (fun h4=>?_) (fun h4=>?_)
 ·refine Wk ?_
  exact zjF fun e=>zjD h4 (congrArg DShip.tugs e)
 refine Wk ?_
 refine zc9 rfl (fun h5=>?_) (fun h5=>?_)
 ·refine Wk ?_
  exact zjF fun e=>zjD h5 (congrArg DShip.slow e)
 refine Wk ?_
 refine zjG ?_
 obtain ⟨c_name,c_length,c_draught,c_line,c_tugs,c_slow⟩:=c
 obtain ⟨d_name,d_length,d_draught,d_line,d_tugs,d_slow⟩:=d
 show DShip.mk c_name c_length c_draught c_line c_tugs c_slow=DShip.mk d_name d_length d_draught d_line d_tugs d_slow
 rw [DShip.mk.injEq]
 exact ⟨of_decide_eq_true (by simpa only [Bool.not_eq_false'] using h0),zjE h1,zjE h2,zjE h3,zjE h4,zjE h5⟩
theorem zYn (c d:DSurge) (h:Hp) (hc:Enc.ok h c) (hd:Enc.ok h d):Ct jV 223 [.agg #[.int .i64 c.src,.int .i64 c.low,.int .i64 c.high],.agg #[.int .i64 d.src,.int .i64 d.low,.int .i64 d.high]] h fun v h'=>v=.bool (decide (Con.con c=Con.con d))∧h'=h:=by
 obtain ⟨oc_src,oc_low,oc_high⟩:=hc
 obtain ⟨od_src,od_low,od_high⟩:=hd
 refine zdn (fun A W=>by simp) Tryz.func223 rfl rfl (by simp) fun W0=>?_
 refine Wk ?_
 refine zc9 rfl (fun h0=>?_) (fun h0=>?_)
 ·refine Wk ?_
  exact zjF fun e=>zjD h0 (congrArg DSurge.src e)
 refine Wk ?_
 refine zc9 rfl (fun h1=>?_) (fun h1=>?_)
 ·refine Wk ?_
  exact zjF fun e=>zjD h1 (congrArg DSurge.low e)
 refine Wk ?_
 refine zc9 rfl (fun h2=>?_) (fun h2=>?_)
 ·refine Wk ?_
  exact zjF fun e=>zjD h2 (congrArg DSurge.high e)
 refine Wk ?_
 refine zjG ?_
 obtain ⟨c_src,c_low,c_high⟩:=c
 obtain ⟨d_src,d_low,d_high⟩:=d
 show DSurge.mk c_src c_low c_high=DSurge.mk d_src d_low d_high
 rw [DSurge.mk.injEq]
 exact ⟨zjE h0,zjE h1,zjE h2⟩
theorem zYp (c d:DCrew) (h:Hp) (hc:Enc.ok h c) (hd:Enc.ok h d):Ct jV 81 [.agg #[.int .i64 c.tugs,.int .i64 c.pilots,.int .i64 c.rest,c.moves.val],.agg #[.int .i64 d.tugs,.int .i64 d.pilots,.int .i64 d.rest,d.moves.val]] h fun v h'=>v=.bool (decide (Con.con c=Con.con d))∧h'=h:=by
 obtain ⟨oc_tugs,oc_pilots,oc_rest,oc_moves⟩:=hc
 obtain ⟨od_tugs,od_pilots,od_rest,od_moves⟩:=hd
 refine zdn (fun A W=>by simp) Tryz.func81 rfl rfl (by simp) fun W0=>?_
 refine Wk ?_
 refine zc9 rfl (fun h0=>?_) (fun h0=>?_)
 ·refine Wk ?_
  refine zjF fun e=>?_
  rw [zkE,zkE,PCrew.mk.injEq] at e
  exact zjD h0 e.1
 refine Wk ?_
 refine zc9 rfl (fun h1=>?_) (fun h1=>?_)
 ·refine Wk ?_
  refine zjF fun e=>?_
  rw [zkE,zkE,PCrew.mk.injEq] at e
  exact zjD h1 e.2.1
 refine Wk ?_
 refine zc9 rfl (fun h2=>?_) (fun h2=>?_)
 ·refine Wk ?_
  refine zjF fun e=>?_
  rw [zkE,zkE,PCrew.mk.injEq] at e
  exact zjD h2 e.2.2.1
 repeat' first|refine Wa ?_|refine zhF (fun _=>zYg _ _ _ oc_moves od_moves) ?_|(simp only [go_sem,jq,jj,jy,jv,jk,jx];try rfl)|refine Wb ?_|fail
 refine zc9 rfl (fun h3=>?_) (fun h3=>?_)
 ·refine Wk ?_
  refine zjF fun e=>?_
  rw [zkE,zkE,PCrew.mk.injEq] at e
  exact of_decide_eq_false (by simpa only [Bool.not_eq_true'] using h3) e.2.2.2
 refine Wk ?_
 refine zjG ?_
 rw [zkE,zkE,PCrew.mk.injEq]
 exact ⟨zjE h0,zjE h1,zjE h2,of_decide_eq_true (by simpa only [Bool.not_eq_false'] using h3)⟩
theorem zYq (a b:Sl DPart) (h:Hp) (ha:a.Ok h) (hb:b.Ok h):Ct jV 222 [a.val,b.val] h fun v h'=>v=.bool (decide (Con.con a=Con.con b))∧h'=h:=by
 have hl:=ha.max
 have hA:(Con.con a).length=a.l.length:=List.length_map ..
 have hB:(Con.con b).length=b.l.length:=List.length_map ..
 refine zdn (fun A W=>by simp) Tryz.func222 rfl rfl (by simp) fun W0=>?_
 refine Wk ?_
 refine zc9 rfl (fun hc=>?_) (fun hc=>?_)
 ·refine Wk ?_
  exact zjF fun e=>zjD hc (by rw [← hA,← hB,e])
 have hlen:a.l.length=b.l.length:=by have:=zjE hc;omega
 refine Wk ?_
 refine zde (ι:=Nat) (fun k=>⟨[(0,true,.c (.v a.val)),(1,true,.c (.v b.val)),(5,true,.c (.v (.int .i64 k)))],[],h,0⟩) (fun k=>k≤a.l.length∧(Con.con a).take k=(Con.con b).take k) (fun k=>a.l.length - k) 0 ⟨Nat.zero_le _,rfl⟩ ?_ ?_
 ·refine Evs ?_
  rfl
 intro k hk
 refine Wk ?_
 refine zc9 rfl (fun hc=>?_) (fun hc=>?_)
 ·have hlt:=zjH hc
  have hlt':k < b.l.length:=by omega
  have gA:(Con.con a)[k]'(by omega)=Con.con a.l[k]:=List.getElem_map ..
  have gB:(Con.con b)[k]'(by omega)=Con.con b.l[k]:=List.getElem_map ..
  refine Wk ?_
  refine ziV rfl ?_
  refine zi3 [0,1,2,3,4,5,6,7] rfl (by kernel_rfl) ?_
  simp only [go_sem,jq,jj,jy,jv,jk,jx,zkH ha hlt,ha.some hlt,zkH hb hlt',hb.some hlt',hlt,hlt']
  refine ziT [8] (by kernel_rfl) (by kernel_rfl) ?_
  simp only [go_sem,jq,jj,jy,jv,jk,jx,zkH ha hlt,ha.some hlt,zkH hb hlt',hb.some hlt',hlt,hlt']
  refine zhF (fun _=>zYh _ _ _ (ha.el hlt) (hb.el hlt')) ?_
  simp only [go_sem,jq,jj,jy,jv,jk,jx,zkH ha hlt,ha.some hlt,zkH hb hlt',hb.some hlt',hlt,hlt']
  refine zi3 [9] rfl (by kernel_rfl) ?_
  refine Evs ?_
  refine ziU (by kernel_rfl) ?_
  refine Wk ?_
  refine zc9 rfl (fun hd=>?_) (fun hd=>?_)
  ·refine Wk ?_
   refine zjF fun e=>(of_decide_eq_false (by simpa only [Bool.not_eq_true'] using hd):¬ Con.con a.l[k]=Con.con b.l[k]) ?_
   rw [← gA,← gB];simp only [e]
  ·refine Wk ?_
   exact ⟨k+1,⟨hlt,zjC (by omega) (by omega) hk.2 (by rw [gA,gB];exact of_decide_eq_true (by simpa only [Bool.not_eq_false'] using hd))⟩,by omega,zjB (zjA hlt (by omega))⟩
 ·have hge:=zjI hc
  refine Wk ?_
  refine zjG ?_
  have:=hk.2
  rwa [List.take_of_length_le (by omega),List.take_of_length_le (by omega)] at this
theorem zYs (a b:Sl DPoint) (h:Hp) (ha:a.Ok h) (hb:b.Ok h):Ct jV 155 [a.val,b.val] h fun v h'=>v=.bool (decide (Con.con a=Con.con b))∧h'=h:=by
 have hl:=ha.max
 have hA:(Con.con a).length=a.l.length:=List.length_map ..
 have hB:(Con.con b).length=b.l.length:=List.length_map ..
 refine zdn (fun A W=>by simp) Tryz.func155 rfl rfl (by simp) fun W0=>?_
 refine Wk ?_
 refine zc9 rfl (fun hc=>?_) (fun hc=>?_)
 ·refine Wk ?_
  exact zjF fun e=>zjD hc (by rw [← hA,← hB,e])
 have hlen:a.l.length=b.l.length:=by have:=zjE hc;omega
 refine Wk ?_
 refine zde (ι:=Nat) (fun k=>⟨[(0,true,.c (.v a.val)),(1,true,.c (.v b.val)),(5,true,.c (.v (.int .i64 k)))],[],h,0⟩) (fun k=>k≤a.l.length∧(Con.con a).take k=(Con.con b).take k) (fun k=>a.l.length - k) 0 ⟨Nat.zero_le _,rfl⟩ ?_ ?_
 ·refine Evs ?_
  rfl
 intro k hk
 refine Wk ?_
 refine zc9 rfl (fun hc=>?_) (fun hc=>?_)
 ·have hlt:=zjH hc
  have hlt':k < b.l.length:=by omega
  have gA:(Con.con a)[k]'(by omega)=Con.con a.l[k]:=List.getElem_map ..
  have gB:(Con.con b)[k]'(by omega)=Con.con b.l[k]:=List.getElem_map ..
  refine Wk ?_
  refine ziV rfl ?_
  refine zi3 [0,1,2,3,4,5,6,7] rfl (by kernel_rfl) ?_
  simp only [go_sem,jq,jj,jy,jv,jk,jx,zkS ha hlt,ha.some hlt,zkS hb hlt',hb.some hlt',hlt,hlt']
  refine ziT [8] (by kernel_rfl) (by kernel_rfl) ?_
  simp only [go_sem,jq,jj,jy,jv,jk,jx,zkS ha hlt,ha.some hlt,zkS hb hlt',hb.some hlt',hlt,hlt']
  refine zhF (fun _=>zYj _ _ _ (ha.el hlt) (hb.el hlt')) ?_
  simp only [go_sem,jq,jj,jy,jv,jk,jx,zkS ha hlt,ha.some hlt,zkS hb hlt',hb.some hlt',hlt,hlt']
  refine zi3 [9] rfl (by kernel_rfl) ?_
  refine Evs ?_
  refine ziU (by kernel_rfl) ?_
  refine Wk ?_
  refine zc9 rfl (fun hd=>?_) (fun hd=>?_)
  ·refine Wk ?_
   refine zjF fun e=>(of_decide_eq_false (by simpa only [Bool.not_eq_true'] using hd):¬ Con.con a.l[k]=Con.con b.l[k]) ?_
   rw [← gA,← gB];simp only [e]
  ·refine Wk ?_
   exact ⟨k+1,⟨hlt,zjC (by omega) (by omega) hk.2 (by rw [gA,gB];exact of_decide_eq_true (by simpa only [Bool.not_eq_false'] using hd))⟩,by omega,zjB (zjA hlt (by omega))⟩
 ·have hge:=zjI hc
  refine Wk ?_
  refine zjG ?_
  have:=hk.2
  rwa [List.take_of_length_le (by omega),List.take_of_length_le (by omega)] at this
theorem zYt (a b:Sl DSegment) (h:Hp) (ha:a.Ok h) (hb:b.Ok h):Ct jV 156 [a.val,b.val] h fun v h'=>v=.bool (decide (Con.con a=Con.con b))∧h'=h:=by
 have hl:=ha.max
 have hA:(Con.con a).length=a.l.length:=List.length_map ..
 have hB:(Con.con b).length=b.l.length:=List.length_map ..
 refine zdn (fun A W=>by simp) Tryz.func156 rfl rfl (by simp) fun W0=>?_
 refine Wk ?_
 refine zc9 rfl (fun hc=>?_) (fun hc=>?_)
 ·refine Wk ?_
  exact zjF fun e=>zjD hc (by rw [← hA,← hB,e])
 have hlen:a.l.length=b.l.length:=by have:=zjE hc;omega
 refine Wk ?_
 refine zde (ι:=Nat) (fun k=>⟨[(0,true,.c (.v a.val)),(1,true,.c (.v b.val)),(5,true,.c (.v (.int .i64 k)))],[],h,0⟩) (fun k=>k≤a.l.length∧(Con.con a).take k=(Con.con b).take k) (fun k=>a.l.length - k) 0 ⟨Nat.zero_le _,rfl⟩ ?_ ?_
 ·refine Evs ?_
  rfl
 intro k hk
 refine Wk ?_
 refine zc9 rfl (fun hc=>?_) (fun hc=>?_)
 ·have hlt:=zjH hc
  have hlt':k < b.l.length:=by omega
  have gA:(Con.con a)[k]'(by omega)=Con.con a.l[k]:=List.getElem_map ..
  have gB:(Con.con b)[k]'(by omega)=Con.con b.l[k]:=List.getElem_map ..
  refine Wk ?_
  refine ziV rfl ?_
  refine zi3 [0,1,2,3,4,5,6,7] rfl (by kernel_rfl) ?_
  simp only [go_sem,jq,jj,jy,jv,jk,jx,zkU ha hlt,ha.some hlt,zkU hb hlt',hb.some hlt',hlt,hlt']
  refine ziT [8] (by kernel_rfl) (by kernel_rfl) ?_
  simp only [go_sem,jq,jj,jy,jv,jk,jx,zkU ha hlt,ha.some hlt,zkU hb hlt',hb.some hlt',hlt,hlt']
  refine zhF (fun _=>zYl _ _ _ (ha.el hlt) (hb.el hlt')) ?_
  simp only [go_sem,jq,jj,jy,jv,jk,jx,zkU ha hlt,ha.some hlt,zkU hb hlt',hb.some hlt',hlt,hlt']
  refine zi3 [9] rfl (by kernel_rfl) ?_
  refine Evs ?_
  refine ziU (by kernel_rfl) ?_
  refine Wk ?_
  refine zc9 rfl (fun hd=>?_) (fun hd=>?_)
  ·refine Wk ?_
   refine zjF fun e=>(of_decide_eq_false (by simpa only [Bool.not_eq_true'] using hd):¬ Con.con a.l[k]=Con.con b.l[k]) ?_
   rw [← gA,← gB];simp only [e]
  ·refine Wk ?_
   exact ⟨k+1,⟨hlt,zjC (by omega) (by omega) hk.2 (by rw [gA,gB];exact of_decide_eq_true (by simpa only [Bool.not_eq_false'] using hd))⟩,by omega,zjB (zjA hlt (by omega))⟩
 ·have hge:=zjI hc
  refine Wk ?_
  refine zjG ?_
  have:=hk.2
  rwa [List.take_of_length_le (by omega),List.take_of_length_le (by omega)] at this
theorem zYu (a b:Sl DShip) (h:Hp) (ha:a.Ok h) (hb:b.Ok h):Ct jV 79 [a.val,b.val] h fun v h'=>v=.bool (decide (Con.con a=Con.con b))∧h'=h:=by
 have hl:=ha.max
 have hA:(Con.con a).length=a.l.length:=List.length_map ..
 have hB:(Con.con b).length=b.l.length:=List.length_map ..
 refine zdn (fun A W=>by simp) Tryz.func79 rfl rfl (by simp) fun W0=>?_
 refine Wk ?_
 refine zc9 rfl (fun hc=>?_) (fun hc=>?_)
 ·refine Wk ?_
  exact zjF fun e=>zjD hc (by rw [← hA,← hB,e])
 have hlen:a.l.length=b.l.length:=by have:=zjE hc;omega
 refine Wk ?_
 refine zde (ι:=Nat) (fun k=>⟨[(0,true,.c (.v a.val)),(1,true,.c (.v b.val)),(5,true,.c (.v (.int .i64 k)))],[],h,0⟩) (fun k=>k≤a.l.length∧(Con.con a).take k=(Con.con b).take k) (fun k=>a.l.length - k) 0 ⟨Nat.zero_le _,rfl⟩ ?_ ?_
 ·refine Evs ?_
  rfl
 intro k hk
 refine Wk ?_
 refine zc9 rfl (fun hc=>?_) (fun hc=>?_)
 ·have hlt:=zjH hc
  have hlt':k < b.l.length:=by omega
  have gA:(Con.con a)[k]'(by omega)=Con.con a.l[k]:=List.getElem_map ..
  have gB:(Con.con b)[k]'(by omega)=Con.con b.l[k]:=List.getElem_map ..
  refine Wk ?_
  refine ziV rfl ?_
  refine zi3 [0,1,2,3,4,5,6,7] rfl (by kernel_rfl) ?_
  simp only [go_sem,jq,jj,jy,jv,jk,jx,zk0 ha hlt,ha.some hlt,zk0 hb hlt',hb.some hlt',hlt,hlt']
  refine ziT [8] (by kernel_rfl) (by kernel_rfl) ?_
  simp only [go_sem,jq,jj,jy,jv,jk,jx,zk0 ha hlt,ha.some hlt,zk0 hb hlt',hb.some hlt',hlt,hlt']
  refine zhF (fun _=>zYm _ _ _ (ha.el hlt) (hb.el hlt')) ?_
  simp only [go_sem,jq,jj,jy,jv,jk,jx,zk0 ha hlt,ha.some hlt,zk0 hb hlt',hb.some hlt',hlt,hlt']
  refine zi3 [9] rfl (by kernel_rfl) ?_
  refine Evs ?_
  refine ziU (by kernel_rfl) ?_
  refine Wk ?_
  refine zc9 rfl (fun hd=>?_) (fun hd=>?_)
  ·refine Wk ?_
   refine zjF fun e=>(of_decide_eq_false (by simpa only [Bool.not_eq_true'] using hd):¬ Con.con a.l[k]=Con.con b.l[k]) ?_
   rw [← gA,← gB];simp only [e]
  ·refine Wk ?_
   exact ⟨k+1,⟨hlt,zjC (by omega) (by omega) hk.2 (by rw [gA,gB];exact of_decide_eq_true (by simpa only [Bool.not_eq_false'] using hd))⟩,by omega,zjB (zjA hlt (by omega))⟩
 ·have hge:=zjI hc
  refine Wk ?_
  refine zjG ?_
  have:=hk.2
  rwa [List.take_of_length_le (by omega),List.take_of_length_le (by omega)] at this
theorem zYv (a b:Sl DSurge) (h:Hp) (ha:a.Ok h) (hb:b.Ok h):Ct jV 154 [a.val,b.val] h fun v h'=>v=.bool (decide (Con.con a=Con.con b))∧h'=h:=by
 have hl:=ha.max
 have hA:(Con.con a).length=a.l.length:=List.length_map ..
 have hB:(Con.con b).length=b.l.length:=List.length_map ..
 refine zdn (fun A W=>by simp) Tryz.func154 rfl rfl (by simp) fun W0=>?_
 refine Wk ?_
 refine zc9 rfl (fun hc=>?_) (fun hc=>?_)
 ·refine Wk ?_
  exact zjF fun e=>zjD hc (by rw [← hA,← hB,e])
 have hlen:a.l.length=b.l.length:=by have:=zjE hc;omega
 refine Wk ?_
 refine zde (ι:=Nat) (fun k=>⟨[(0,true,.c (.v a.val)),(1,true,.c (.v b.val)),(5,true,.c (.v (.int .i64 k)))],[],h,0⟩) (fun k=>k≤a.l.length∧(Con.con a).take k=(Con.con b).take k) (fun k=>a.l.length - k) 0 ⟨Nat.zero_le _,rfl⟩ ?_ ?_
 ·refine Evs ?_
  rfl
 intro k hk
 refine Wk ?_
 refine zc9 rfl (fun hc=>?_) (fun hc=>?_)
 ·have hlt:=zjH hc
  have hlt':k < b.l.length:=by omega
  have gA:(Con.con a)[k]'(by omega)=Con.con a.l[k]:=List.getElem_map ..
  have gB:(Con.con b)[k]'(by omega)=Con.con b.l[k]:=List.getElem_map ..
  refine Wk ?_
  refine ziV rfl ?_
  refine zi3 [0,1,2,3,4,5,6,7] rfl (by kernel_rfl) ?_
  simp only [go_sem,jq,jj,jy,jv,jk,jx,zkM ha hlt,ha.some hlt,zkM hb hlt',hb.some hlt',hlt,hlt']
  refine ziT [8] (by kernel_rfl) (by kernel_rfl) ?_
  simp only [go_sem,jq,jj,jy,jv,jk,jx,zkM ha hlt,ha.some hlt,zkM hb hlt',hb.some hlt',hlt,hlt']
  refine zhF (fun _=>zYn _ _ _ (ha.el hlt) (hb.el hlt')) ?_
  simp only [go_sem,jq,jj,jy,jv,jk,jx,zkM ha hlt,ha.some hlt,zkM hb hlt',hb.some hlt',hlt,hlt']
  refine zi3 [9] rfl (by kernel_rfl) ?_
  refine Evs ?_
  refine ziU (by kernel_rfl) ?_
  refine Wk ?_
  refine zc9 rfl (fun hd=>?_) (fun hd=>?_)
  ·refine Wk ?_
   refine zjF fun e=>(of_decide_eq_false (by simpa only [Bool.not_eq_true'] using hd):¬ Con.con a.l[k]=Con.con b.l[k]) ?_
   rw [← gA,← gB];simp only [e]
  ·refine Wk ?_
   exact ⟨k+1,⟨hlt,zjC (by omega) (by omega) hk.2 (by rw [gA,gB];exact of_decide_eq_true (by simpa only [Bool.not_eq_false'] using hd))⟩,by omega,zjB (zjA hlt (by omega))⟩
 ·have hge:=zjI hc
  refine Wk ?_
  refine zjG ?_
  have:=hk.2
  rwa [List.take_of_length_le (by omega),List.take_of_length_le (by omega)] at this
theorem zYw (c d:DChart) (h:Hp) (hc:Enc.ok h c) (hd:Enc.ok h d):Ct jV 78 [.agg #[c.points.val,c.segments.val],.agg #[d.points.val,d.segments.val]] h fun v h'=>v=.bool (decide (Con.con c=Con.con d))∧h'=h:=by
 obtain ⟨oc_points,oc_segments⟩:=hc
 obtain ⟨od_points,od_segments⟩:=hd
 refine zdn (fun A W=>by simp) Tryz.func78 rfl rfl (by simp) fun W0=>?_
 repeat' first|refine Wa ?_|refine zhF (fun _=>zYs _ _ _ oc_points od_points) ?_|(simp only [go_sem,jq,jj,jy,jv,jk,jx];try rfl)|refine Wb ?_|fail
 refine zc9 rfl (fun h0=>?_) (fun h0=>?_)
 ·refine Wk ?_
  refine zjF fun e=>?_
  rw [zkW,zkW,PChart.mk.injEq] at e
  exact of_decide_eq_false (by simpa only [Bool.not_eq_true'] using h0) e.1
 repeat' first|refine Wa ?_|refine zhF (fun _=>zYt _ _ _ oc_segments od_segments) ?_|(simp only [go_sem,jq,jj,jy,jv,jk,jx];try rfl)|refine Wb ?_|fail
 refine zc9 rfl (fun h1=>?_) (fun h1=>?_)
 ·refine Wk ?_
  refine zjF fun e=>?_
  rw [zkW,zkW,PChart.mk.injEq] at e
  exact of_decide_eq_false (by simpa only [Bool.not_eq_true'] using h1) e.2
 refine Wk ?_
 refine zjG ?_
 rw [zkW,zkW,PChart.mk.injEq]
 exact ⟨of_decide_eq_true (by simpa only [Bool.not_eq_false'] using h0),of_decide_eq_true (by simpa only [Bool.not_eq_false'] using h1)⟩
theorem zYy (c d:DTide) (h:Hp) (hc:Enc.ok h c) (hd:Enc.ok h d):Ct jV 153 [.agg #[.int .i64 c.mean,c.parts.val],.agg #[.int .i64 d.mean,d.parts.val]] h fun v h'=>v=.bool (decide (Con.con c=Con.con d))∧h'=h:=by
 obtain ⟨oc_mean,oc_parts⟩:=hc
 obtain ⟨od_mean,od_parts⟩:=hd
 refine zdn (fun A W=>by simp) Tryz.func153 rfl rfl (by simp) fun W0=>?_
 refine Wk ?_
 refine zc9 rfl (fun h0=>?_) (fun h0=>?_)
 ·refine Wk ?_
  refine zjF fun e=>?_
  rw [zkJ,zkJ,PTide.mk.injEq] at e
  exact zjD h0 e.1
 repeat' first|refine Wa ?_|refine zhF (fun _=>zYq _ _ _ oc_parts od_parts) ?_|(simp only [go_sem,jq,jj,jy,jv,jk,jx];try rfl)|refine Wb ?_|fail
 refine zc9 rfl (fun h1=>?_) (fun h1=>?_)
 ·refine Wk ?_
  refine zjF fun e=>?_
  rw [zkJ,zkJ,PTide.mk.injEq] at e
  exact of_decide_eq_false (by simpa only [Bool.not_eq_true'] using h1) e.2
 refine Wk ?_
 refine zjG ?_
 rw [zkJ,zkJ,PTide.mk.injEq]
 exact ⟨zjE h0,of_decide_eq_true (by simpa only [Bool.not_eq_false'] using h1)⟩
theorem zYz (c d:DForecast) (h:Hp) (hc:Enc.ok h c) (hd:Enc.ok h d):Ct jV 77 [.agg #[.int .i64 c.tide.mean,c.tide.parts.val,c.surges.val],.agg #[.int .i64 d.tide.mean,d.tide.parts.val,d.surges.val]] h fun v h'=>v=.bool (decide (Con.con c=Con.con d))∧h'=h:=by
 obtain ⟨oc_tide,oc_surges⟩:=hc
 obtain ⟨od_tide,od_surges⟩:=hd
 refine zdn (fun A W=>by simp) Tryz.func77 rfl rfl (by simp) fun W0=>?_
 repeat' first|refine Wa ?_|refine zhF (fun _=>zYy _ _ _ oc_tide od_tide) ?_|(simp only [go_sem,jq,jj,jy,jv,jk,jx];try rfl)|refine Wb ?_|fail
 refine zc9 rfl (fun h0=>?_) (fun h0=>?_)
 ·refine Wk ?_
  refine zjF fun e=>?_
  rw [zkO,zkO,PForecast.mk.injEq] at e
  exact of_decide_eq_false (by simpa only [Bool.not_eq_true'] using h0) e.1
 repeat' first|refine Wa ?_|refine zhF (fun _=>zYv _ _ _ oc_surges od_surges) ?_|(simp only [go_sem,jq,jj,jy,jv,jk,jx];try rfl)|refine Wb ?_|fail
 refine zc9 rfl (fun h1=>?_) (fun h1=>?_)
 ·refine Wk ?_
  refine zjF fun e=>?_
  rw [zkO,zkO,PForecast.mk.injEq] at e
  exact of_decide_eq_false (by simpa only [Bool.not_eq_true'] using h1) e.2
 refine Wk ?_
 refine zjG ?_
 rw [zkO,zkO,PForecast.mk.injEq]
 exact ⟨of_decide_eq_true (by simpa only [Bool.not_eq_false'] using h0),of_decide_eq_true (by simpa only [Bool.not_eq_false'] using h1)⟩
theorem zYA (c d:DHarbour) (h:Hp) (hc:Enc.ok h c) (hd:Enc.ok h d):Ct jV 21 [.agg #[.int .i64 c.forecast.tide.mean,c.forecast.tide.parts.val,c.forecast.surges.val,c.chart.points.val,c.chart.segments.val,c.fleet.val,.int .i64 c.regime.gap,.bool c.regime.noMeet,.int .i64 c.crew.tugs,.int .i64 c.crew.pilots,.int .i64 c.crew.rest,c.crew.moves.val],.agg #[.int .i64 d.forecast.tide.mean,d.forecast.tide.parts.val,d.forecast.surges.val,d.chart.points.val,d.chart.segments.val,d.fleet.val,.int .i64 d.regime.gap,.bool d.regime.noMeet,.int .i64 d.crew.tugs,.int .i64 d.crew.pilots,.int .i64 d.crew.rest,d.crew.moves.val]] h fun v h'=>v=.bool (decide (Con.con c=Con.con d))∧h'=h:=by
 obtain ⟨oc_forecast,oc_chart,oc_fleet,oc_regime,oc_crew⟩:=hc
 obtain ⟨od_forecast,od_chart,od_fleet,od_regime,od_crew⟩:=hd
 refine zdn (fun A W=>by simp) Tryz.func21 rfl rfl (by simp) fun W0=>?_
 repeat' first|refine Wa ?_|refine zhF (fun _=>zYz _ _ _ oc_forecast od_forecast) ?_|(simp only [go_sem,jq,jj,jy,jv,jk,jx];try rfl)|refine Wb ?_|fail
 refine zc9 rfl (fun h0=>?_) (fun h0=>?_)
 ·refine Wk ?_
  refine zjF fun e=>?_
  rw [zk3,zk3,PHarbour.mk.injEq] at e
  exact of_decide_eq_false (by simpa only [Bool.not_eq_true'] using h0) e.1
 repeat' first|refine Wa ?_|refine zhF (fun _=>zYw _ _ _ oc_chart od_chart) ?_|(simp only [go_sem,jq,jj,jy,jv,jk,jx];try rfl)|refine Wb ?_|fail
 refine zc9 rfl (fun h1=>?_) (fun h1=>?_)
 ·refine Wk ?_
  refine zjF fun e=>?_
  rw [zk3,zk3,PHarbour.mk.injEq] at e
  exact of_decide_eq_false (by simpa only [Bool.not_eq_true'] using h1) e.2.1
 repeat' first|refine Wa ?_|refine zhF (fun _=>zYu _ _ _ oc_fleet od_fleet) ?_|(simp only [go_sem,jq,jj,jy,jv,jk,jx];try rfl)|refine Wb ?_|fail
 refine zc9 rfl (fun h2=>?_) (fun h2=>?_)
 ·refine Wk ?_
  refine zjF fun e=>?_
  rw [zk3,zk3,PHarbour.mk.injEq] at e
  exact of_decide_eq_false (by simpa only [Bool.not_eq_true'] using h2) e.2.2.1
 repeat' first|refine Wa ?_|refine zhF (fun _=>zYk _ _ _ oc_regime od_regime) ?_|(simp only [go_sem,jq,jj,jy,jv,jk,jx];try rfl)|refine Wb ?_|fail
 refine zc9 rfl (fun h3=>?_) (fun h3=>?_)
 ·refine Wk ?_
  refine zjF fun e=>?_
  rw [zk3,zk3,PHarbour.mk.injEq] at e
  exact of_decide_eq_false (by simpa only [Bool.not_eq_true'] using h3) e.2.2.2.1
 repeat' first|refine Wa ?_|refine zhF (fun _=>zYp _ _ _ oc_crew od_crew) ?_|(simp only [go_sem,jq,jj,jy,jv,jk,jx];try rfl)|refine Wb ?_|fail
 refine zc9 rfl (fun h4=>?_) (fun h4=>?_)
 ·refine Wk ?_
  refine zjF fun e=>?_
  rw [zk3,zk3,PHarbour.mk.injEq] at e
  exact of_decide_eq_false (by simpa only [Bool.not_eq_true'] using h4) e.2.2.2.2
 refine Wk ?_
 refine zjG ?_
 rw [zk3,zk3,PHarbour.mk.injEq]
 exact ⟨of_decide_eq_true (by simpa only [Bool.not_eq_false'] using h0),of_decide_eq_true (by simpa only [Bool.not_eq_false'] using h1),of_decide_eq_true (by simpa only [Bool.not_eq_false'] using h2),of_decide_eq_true (by simpa only [Bool.not_eq_false'] using h3),of_decide_eq_true (by simpa only [Bool.not_eq_false'] using h4)⟩
end Go.Proofs.YtbkaaakphpbmiaaGreat
