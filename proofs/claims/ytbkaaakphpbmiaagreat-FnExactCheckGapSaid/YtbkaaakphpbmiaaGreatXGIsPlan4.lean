/- What functions of the given program compute, each as a contract over what its arguments read as. No condition beside those that each theorem states. -/
import Derived.Test.YtbkaaakphpbmiaaGreatXGIsPlan3
set_option linter.unusedVariables false
set_option linter.unusedSimpArgs false
open Nat renaming reduceAdd → yqa, reduceMul → yqb, reduceBEq → yqc, reduceLeDiff → yqd, reduceLT → yqe, reduceEqDiff → yqf
open Bool renaming or_eq_false_iff → yqg, or_eq_true → yqh, and_eq_true → yqi
open Int renaming toNat_natCast → yqj, natCast_nonneg → yqk
namespace Go.Proofs.YtbkaaakphpbmiaaGreat
open Go Go.SL
set_option maxHeartbeats 1000000
theorem zxR (c d:DCall) (h:Hp) (hc:Enc.ok h c) (hd:Enc.ok h d):Ct Tryz.prog 82 [.agg #[.int .i64 c.ship,.int .i64 c.src,.int .i64 c.dst,.int .i64 c.ready,.int .i64 c.due],.agg #[.int .i64 d.ship,.int .i64 d.src,.int .i64 d.dst,.int .i64 d.ready,.int .i64 d.due]] h fun v h'=>v=.bool (decide (Con.con c=Con.con d))∧h'=h:=by
 obtain ⟨oc_ship,oc_src,oc_dst,oc_ready,oc_due⟩:=hc
 obtain ⟨od_ship,od_src,od_dst,od_ready,od_due⟩:=hd
 refine zdm (fun A W=>by simp) Tryz.func82 rfl rfl (by simp) fun W0=>?_
 refine Wk ?_
 refine zc9 rfl (fun h0=>?_) (fun h0=>?_)
 ·refine Wk ?_
  exact zjE fun e=>zjC h0 (congrArg DCall.ship e)
 refine Wk ?_
 refine zc9 rfl (fun h1=>?_) (fun h1=>?_)
 ·refine Wk ?_
  exact zjE fun e=>zjC h1 (congrArg DCall.src e)
 refine Wk ?_
 refine zc9 rfl (fun h2=>?_) (fun h2=>?_)
 ·refine Wk ?_
  exact zjE fun e=>zjC h2 (congrArg DCall.dst e)
 refine Wk ?_
 refine zc9 rfl (fun h3=>?_) (fun h3=>?_)
 ·refine Wk ?_
  exact zjE fun e=>zjC h3 (congrArg DCall.ready e)
 refine Wk ?_
 refine zc9 rfl (fun h4=>?_) (fun h4=>?_)
 ·refine Wk ?_
  exact zjE fun e=>zjC h4 (congrArg DCall.due e)
 refine Wk ?_
 refine zjF ?_
 obtain ⟨c_ship,c_src,c_dst,c_ready,c_due⟩:=c
 obtain ⟨d_ship,d_src,d_dst,d_ready,d_due⟩:=d
 show DCall.mk c_ship c_src c_dst c_ready c_due=DCall.mk d_ship d_src d_dst d_ready d_due
 rw [DCall.mk.injEq]
 exact ⟨zjD h0,zjD h1,zjD h2,zjD h3,zjD h4⟩
theorem zxS (a b:Sl Int) (h:Hp) (ha:a.Ok h) (hb:b.Ok h):Ct Tryz.prog 23 [a.val,b.val] h fun v h'=>v=.bool (decide (Con.con a=Con.con b))∧h'=h:=by
 have hl:=ha.max
 have hA:(Con.con a).length=a.l.length:=List.length_map ..
 have hB:(Con.con b).length=b.l.length:=List.length_map ..
 refine zdm (fun A W=>by simp) Tryz.func23 rfl rfl (by simp) fun W0=>?_
 refine Wk ?_
 refine zc9 rfl (fun hc=>?_) (fun hc=>?_)
 ·refine Wk ?_
  exact zjE fun e=>zjC hc (by rw [← hA,← hB,e])
 have hlen:a.l.length=b.l.length:=by have:=zjD hc;omega
 refine Wk ?_
 refine zdd (ι:=Nat) (fun k=>⟨[(0,true,.c (.v a.val)),(1,true,.c (.v b.val)),(5,true,.c (.v (.int .i64 k)))],[],h,0⟩) (fun k=>k≤a.l.length∧(Con.con a).take k=(Con.con b).take k) (fun k=>a.l.length - k) 0 ⟨Nat.zero_le _,rfl⟩ ?_ ?_
 ·refine Evs ?_
  rfl
 intro k hk
 refine Wk ?_
 refine zc9 rfl (fun hc=>?_) (fun hc=>?_)
 ·have hlt:=zjG hc
  have hlt':k < b.l.length:=by omega
  have gA:(Con.con a)[k]'(by omega)=Con.con a.l[k]:=List.getElem_map ..
  have gB:(Con.con b)[k]'(by omega)=Con.con b.l[k]:=List.getElem_map ..
  refine Wk ?_
  refine zi7 rfl (by kernel_rfl) ?_
  simp (maxSteps:=2000000) only [go_sem,yqa,yqb,yqc,yqd,yqe,yqf,zkO ha hlt,ha.some hlt,zkO hb hlt',hb.some hlt',hlt,hlt']
  refine zc9 rfl (fun hd=>?_) (fun hd=>?_)
  ·refine Wk ?_
   refine zjE fun e=>(zjC hd:¬ Con.con a.l[k]=Con.con b.l[k]) ?_
   rw [← gA,← gB];simp only [e]
  ·refine Wk ?_
   exact ⟨k+1,⟨hlt,zjB (by omega) (by omega) hk.2 (by rw [gA,gB];exact zjD hd)⟩,by omega,zjA (zjz hlt (by omega))⟩
 ·have hge:=zjH hc
  refine Wk ?_
  refine zjF ?_
  have:=hk.2
  rwa [List.take_of_length_le (by omega),List.take_of_length_le (by omega)] at this
theorem zxT (c d:DPart) (h:Hp) (hc:Enc.ok h c) (hd:Enc.ok h d):Ct Tryz.prog 267 [.agg #[.int .i64 c.amp,.int .i64 c.period,.int .i64 c.phase],.agg #[.int .i64 d.amp,.int .i64 d.period,.int .i64 d.phase]] h fun v h'=>v=.bool (decide (Con.con c=Con.con d))∧h'=h:=by
 obtain ⟨oc_amp,oc_period,oc_phase⟩:=hc
 obtain ⟨od_amp,od_period,od_phase⟩:=hd
 refine zdm (fun A W=>by simp) Tryz.func267 rfl rfl (by simp) fun W0=>?_
 refine Wk ?_
 refine zc9 rfl (fun h0=>?_) (fun h0=>?_)
 ·refine Wk ?_
  exact zjE fun e=>zjC h0 (congrArg DPart.amp e)
 refine Wk ?_
 refine zc9 rfl (fun h1=>?_) (fun h1=>?_)
 ·refine Wk ?_
  exact zjE fun e=>zjC h1 (congrArg DPart.period e)
 refine Wk ?_
 refine zc9 rfl (fun h2=>?_) (fun h2=>?_)
 ·refine Wk ?_
  exact zjE fun e=>zjC h2 (congrArg DPart.phase e)
 refine Wk ?_
 refine zjF ?_
 obtain ⟨c_amp,c_period,c_phase⟩:=c
 obtain ⟨d_amp,d_period,d_phase⟩:=d
 show DPart.mk c_amp c_period c_phase=DPart.mk d_amp d_period d_phase
 rw [DPart.mk.injEq]
 exact ⟨zjD h0,zjD h1,zjD h2⟩
theorem zxU (c d:DPassage) (h:Hp) (hc:Enc.ok h c) (hd:Enc.ok h d):Ct Tryz.prog 181 [.agg #[.int .i64 c.ship,.int .i64 c.seg,.bool c.toward,.int .i64 c.start,.int .i64 c.fin],.agg #[.int .i64 d.ship,.int .i64 d.seg,.bool d.toward,.int .i64 d.start,.int .i64 d.fin]] h fun v h'=>v=.bool (decide (Con.con c=Con.con d))∧h'=h:=by
 obtain ⟨oc_ship,oc_seg,oc_start,oc_fin⟩:=hc
 obtain ⟨od_ship,od_seg,od_start,od_fin⟩:=hd
 refine zdm (fun A W=>by simp) Tryz.func181 rfl rfl (by simp) fun W0=>?_
 refine Wk ?_
 refine zc9 rfl (fun h0=>?_) (fun h0=>?_)
 ·refine Wk ?_
  exact zjE fun e=>zjC h0 (congrArg DPassage.ship e)
 refine Wk ?_
 refine zc9 rfl (fun h1=>?_) (fun h1=>?_)
 ·refine Wk ?_
  exact zjE fun e=>zjC h1 (congrArg DPassage.seg e)
 refine Wk ?_
 refine zc9 rfl (fun h2=>?_) (fun h2=>?_)
 ·refine Wk ?_
  exact zjE fun e=>zjC h2 (congrArg DPassage.toward e)
 refine Wk ?_
 refine zc9 rfl (fun h3=>?_) (fun h3=>?_)
 ·refine Wk ?_
  exact zjE fun e=>zjC h3 (congrArg DPassage.start e)
 refine Wk ?_
 refine zc9 rfl (fun h4=>?_) (fun h4=>?_)
 ·refine Wk ?_
  exact zjE fun e=>zjC h4 (congrArg DPassage.fin e)
 refine Wk ?_
 refine zjF ?_
 obtain ⟨c_ship,c_seg,c_toward,c_start,c_fin⟩:=c
 obtain ⟨d_ship,d_seg,d_toward,d_start,d_fin⟩:=d
 show DPassage.mk c_ship c_seg c_toward c_start c_fin=DPassage.mk d_ship d_seg d_toward d_start d_fin
 rw [DPassage.mk.injEq]
 exact ⟨zjD h0,zjD h1,zjD h2,zjD h3,zjD h4⟩
theorem zxV (c d:DPoint) (h:Hp) (hc:Enc.ok h c) (hd:Enc.ok h d):Ct Tryz.prog 224 [.agg #[.string c.name,.bool c.wait],.agg #[.string d.name,.bool d.wait]] h fun v h'=>v=.bool (decide (Con.con c=Con.con d))∧h'=h:=by
 have oc_name:=hc
 have od_name:=hd
 refine zdm (fun A W=>by simp) Tryz.func224 rfl rfl (by simp) fun W0=>?_
 refine Wk ?_
 refine zc9 rfl (fun h0=>?_) (fun h0=>?_)
 ·refine Wk ?_
  exact zjE fun e=>of_decide_eq_false (by simpa only [Bool.not_eq_true'] using h0) (show c.name=d.name from (congrArg DPoint.name e))
 refine Wk ?_
 refine zc9 rfl (fun h1=>?_) (fun h1=>?_)
 ·refine Wk ?_
  exact zjE fun e=>zjC h1 (congrArg DPoint.wait e)
 refine Wk ?_
 refine zjF ?_
 obtain ⟨c_name,c_wait⟩:=c
 obtain ⟨d_name,d_wait⟩:=d
 show DPoint.mk c_name c_wait=DPoint.mk d_name d_wait
 rw [DPoint.mk.injEq]
 exact ⟨of_decide_eq_true (by simpa only [Bool.not_eq_false'] using h0),zjD h1⟩
theorem zxW (c d:DRegime) (h:Hp) (hc:Enc.ok h c) (hd:Enc.ok h d):Ct Tryz.prog 80 [.agg #[.int .i64 c.gap,.bool c.noMeet],.agg #[.int .i64 d.gap,.bool d.noMeet]] h fun v h'=>v=.bool (decide (Con.con c=Con.con d))∧h'=h:=by
 have oc_gap:=hc
 have od_gap:=hd
 refine zdm (fun A W=>by simp) Tryz.func80 rfl rfl (by simp) fun W0=>?_
 refine Wk ?_
 refine zc9 rfl (fun h0=>?_) (fun h0=>?_)
 ·refine Wk ?_
  exact zjE fun e=>zjC h0 (congrArg DRegime.gap e)
 refine Wk ?_
 refine zc9 rfl (fun h1=>?_) (fun h1=>?_)
 ·refine Wk ?_
  exact zjE fun e=>zjC h1 (congrArg DRegime.noMeet e)
 refine Wk ?_
 refine zjF ?_
 obtain ⟨c_gap,c_noMeet⟩:=c
 obtain ⟨d_gap,d_noMeet⟩:=d
 show DRegime.mk c_gap c_noMeet=DRegime.mk d_gap d_noMeet
 rw [DRegime.mk.injEq]
 exact ⟨zjD h0,zjD h1⟩
theorem zxX (c d:DSegment) (h:Hp) (hc:Enc.ok h c) (hd:Enc.ok h d):Ct Tryz.prog 225 [.agg #[.int .i64 c.a,.int .i64 c.b,.int .i64 c.depth,.int .i64 c.minutes,.bool c.meet],.agg #[.int .i64 d.a,.int .i64 d.b,.int .i64 d.depth,.int .i64 d.minutes,.bool d.meet]] h fun v h'=>v=.bool (decide (Con.con c=Con.con d))∧h'=h:=by
 obtain ⟨oc_a,oc_b,oc_depth,oc_minutes⟩:=hc
 obtain ⟨od_a,od_b,od_depth,od_minutes⟩:=hd
 refine zdm (fun A W=>by simp) Tryz.func225 rfl rfl (by simp) fun W0=>?_
 refine Wk ?_
 refine zc9 rfl (fun h0=>?_) (fun h0=>?_)
 ·refine Wk ?_
  exact zjE fun e=>zjC h0 (congrArg DSegment.a e)
 refine Wk ?_
 refine zc9 rfl (fun h1=>?_) (fun h1=>?_)
 ·refine Wk ?_
  exact zjE fun e=>zjC h1 (congrArg DSegment.b e)
 refine Wk ?_
 refine zc9 rfl (fun h2=>?_) (fun h2=>?_)
 ·refine Wk ?_
  exact zjE fun e=>zjC h2 (congrArg DSegment.depth e)
 refine Wk ?_
 refine zc9 rfl (fun h3=>?_) (fun h3=>?_)
 ·refine Wk ?_
  exact zjE fun e=>zjC h3 (congrArg DSegment.minutes e)
 refine Wk ?_
 refine zc9 rfl (fun h4=>?_) (fun h4=>?_)
 ·refine Wk ?_
  exact zjE fun e=>zjC h4 (congrArg DSegment.meet e)
 refine Wk ?_
 refine zjF ?_
 obtain ⟨c_a,c_b,c_depth,c_minutes,c_meet⟩:=c
 obtain ⟨d_a,d_b,d_depth,d_minutes,d_meet⟩:=d
 show DSegment.mk c_a c_b c_depth c_minutes c_meet=DSegment.mk d_a d_b d_depth d_minutes d_meet
 rw [DSegment.mk.injEq]
 exact ⟨zjD h0,zjD h1,zjD h2,zjD h3,zjD h4⟩
theorem zxY (c d:DShip) (h:Hp) (hc:Enc.ok h c) (hd:Enc.ok h d):Ct Tryz.prog 157 [.agg #[.string c.name,.int .i64 c.length,.int .i64 c.draught,.int .i64 c.line,.int .i64 c.tugs,.bool c.slow],.agg #[.string d.name,.int .i64 d.length,.int .i64 d.draught,.int .i64 d.line,.int .i64 d.tugs,.bool d.slow]] h fun v h'=>v=.bool (decide (Con.con c=Con.con d))∧h'=h:=by
 obtain ⟨oc_name,oc_length,oc_draught,oc_line,oc_tugs⟩:=hc
 obtain ⟨od_name,od_length,od_draught,od_line,od_tugs⟩:=hd
 refine zdm (fun A W=>by simp) Tryz.func157 rfl rfl (by simp) fun W0=>?_
 refine Wk ?_
 refine zc9 rfl (fun h0=>?_) (fun h0=>?_)
 ·refine Wk ?_
  exact zjE fun e=>of_decide_eq_false (by simpa only [Bool.not_eq_true'] using h0) (show c.name=d.name from (congrArg DShip.name e))
 refine Wk ?_
 refine zc9 rfl (fun h1=>?_) (fun h1=>?_)
 ·refine Wk ?_
  exact zjE fun e=>zjC h1 (congrArg DShip.length e)
 refine Wk ?_
 refine zc9 rfl (fun h2=>?_) (fun h2=>?_)
 ·refine Wk ?_
  exact zjE fun e=>zjC h2 (congrArg DShip.draught e)
 refine Wk ?_
 refine zc9 rfl (fun h3=>?_) (fun h3=>?_)
 ·refine Wk ?_
  exact zjE fun e=>zjC h3 (congrArg DShip.line e)
 refine Wk ?_
 refine zc9 rfl (fun h4=>?_) (fun h4=>?_)
 ·refine Wk ?_
  exact zjE fun e=>zjC h4 (congrArg DShip.tugs e)
 refine Wk ?_
 refine zc9 rfl (fun h5=>?_) (fun h5=>?_)
 ·refine Wk ?_
  exact zjE fun e=>zjC h5 (congrArg DShip.slow e)
 refine Wk ?_
 refine zjF ?_
 obtain ⟨c_name,c_length,c_draught,c_line,c_tugs,c_slow⟩:=c
 obtain ⟨d_name,d_length,d_draught,d_line,d_tugs,d_slow⟩:=d
 show DShip.mk c_name c_length c_draught c_line c_tugs c_slow=DShip.mk d_name d_length d_draught d_line d_tugs d_slow
 rw [DShip.mk.injEq]
 exact ⟨of_decide_eq_true (by simpa only [Bool.not_eq_false'] using h0),zjD h1,zjD h2,zjD h3,zjD h4,zjD h5⟩
theorem zxZ (c d:DSurge) (h:Hp) (hc:Enc.ok h c) (hd:Enc.ok h d):Ct Tryz.prog 223 [.agg #[.int .i64 c.src,.int .i64 c.low,.int .i64 c.high],.agg #[.int .i64 d.src,.int .i64 d.low,.int .i64 d.high]] h fun v h'=>v=.bool (decide (Con.con c=Con.con d))∧h'=h:=by
 obtain ⟨oc_src,oc_low,oc_high⟩:=hc
 obtain ⟨od_src,od_low,od_high⟩:=hd
 refine zdm (fun A W=>by simp) Tryz.func223 rfl rfl (by simp) fun W0=>?_
 refine Wk ?_
 refine zc9 rfl (fun h0=>?_) (fun h0=>?_)
 ·refine Wk ?_
  exact zjE fun e=>zjC h0 (congrArg DSurge.src e)
 refine Wk ?_
 refine zc9 rfl (fun h1=>?_) (fun h1=>?_)
 ·refine Wk ?_
  exact zjE fun e=>zjC h1 (congrArg DSurge.low e)
 refine Wk ?_
 refine zc9 rfl (fun h2=>?_) (fun h2=>?_)
 ·refine Wk ?_
  exact zjE fun e=>zjC h2 (congrArg DSurge.high e)
 refine Wk ?_
 refine zjF ?_
 obtain ⟨c_src,c_low,c_high⟩:=c
 obtain ⟨d_src,d_low,d_high⟩:=d
 show DSurge.mk c_src c_low c_high=DSurge.mk d_src d_low d_high
 rw [DSurge.mk.injEq]
 exact ⟨zjD h0,zjD h1,zjD h2⟩
theorem zx0 (a b:Sl DCall) (h:Hp) (ha:a.Ok h) (hb:b.Ok h):Ct Tryz.prog 22 [a.val,b.val] h fun v h'=>v=.bool (decide (Con.con a=Con.con b))∧h'=h:=by
 have hl:=ha.max
 have hA:(Con.con a).length=a.l.length:=List.length_map ..
 have hB:(Con.con b).length=b.l.length:=List.length_map ..
 refine zdm (fun A W=>by simp) Tryz.func22 rfl rfl (by simp) fun W0=>?_
 refine Wk ?_
 refine zc9 rfl (fun hc=>?_) (fun hc=>?_)
 ·refine Wk ?_
  exact zjE fun e=>zjC hc (by rw [← hA,← hB,e])
 have hlen:a.l.length=b.l.length:=by have:=zjD hc;omega
 refine Wk ?_
 refine zdd (ι:=Nat) (fun k=>⟨[(0,true,.c (.v a.val)),(1,true,.c (.v b.val)),(5,true,.c (.v (.int .i64 k)))],[],h,0⟩) (fun k=>k≤a.l.length∧(Con.con a).take k=(Con.con b).take k) (fun k=>a.l.length - k) 0 ⟨Nat.zero_le _,rfl⟩ ?_ ?_
 ·refine Evs ?_
  rfl
 intro k hk
 refine Wk ?_
 refine zc9 rfl (fun hc=>?_) (fun hc=>?_)
 ·have hlt:=zjG hc
  have hlt':k < b.l.length:=by omega
  have gA:(Con.con a)[k]'(by omega)=Con.con a.l[k]:=List.getElem_map ..
  have gB:(Con.con b)[k]'(by omega)=Con.con b.l[k]:=List.getElem_map ..
  refine Wk ?_
  refine ziU rfl ?_
  refine zi2 [0,1,2,3,4,5,6,7] rfl (by kernel_rfl) ?_
  simp (maxSteps:=2000000) only [go_sem,yqa,yqb,yqc,yqd,yqe,yqf,zkQ ha hlt,ha.some hlt,zkQ hb hlt',hb.some hlt',hlt,hlt']
  refine ziS [8] (by kernel_rfl) (by kernel_rfl) ?_
  simp (maxSteps:=2000000) only [go_sem,yqa,yqb,yqc,yqd,yqe,yqf,zkQ ha hlt,ha.some hlt,zkQ hb hlt',hb.some hlt',hlt,hlt']
  refine zhE (fun _=>zxR _ _ _ (ha.el hlt) (hb.el hlt')) ?_
  simp (maxSteps:=2000000) only [go_sem,yqa,yqb,yqc,yqd,yqe,yqf,zkQ ha hlt,ha.some hlt,zkQ hb hlt',hb.some hlt',hlt,hlt']
  refine zi2 [9] rfl (by kernel_rfl) ?_
  refine Evs ?_
  refine ziT (by kernel_rfl) ?_
  refine Wk ?_
  refine zc9 rfl (fun hd=>?_) (fun hd=>?_)
  ·refine Wk ?_
   refine zjE fun e=>(of_decide_eq_false (by simpa only [Bool.not_eq_true'] using hd):¬ Con.con a.l[k]=Con.con b.l[k]) ?_
   rw [← gA,← gB];simp only [e]
  ·refine Wk ?_
   exact ⟨k+1,⟨hlt,zjB (by omega) (by omega) hk.2 (by rw [gA,gB];exact of_decide_eq_true (by simpa only [Bool.not_eq_false'] using hd))⟩,by omega,zjA (zjz hlt (by omega))⟩
 ·have hge:=zjH hc
  refine Wk ?_
  refine zjF ?_
  have:=hk.2
  rwa [List.take_of_length_le (by omega),List.take_of_length_le (by omega)] at this
theorem zx1 (c d:DCrew) (h:Hp) (hc:Enc.ok h c) (hd:Enc.ok h d):Ct Tryz.prog 81 [.agg #[.int .i64 c.tugs,.int .i64 c.pilots,.int .i64 c.rest,c.moves.val],.agg #[.int .i64 d.tugs,.int .i64 d.pilots,.int .i64 d.rest,d.moves.val]] h fun v h'=>v=.bool (decide (Con.con c=Con.con d))∧h'=h:=by
 obtain ⟨oc_tugs,oc_pilots,oc_rest,oc_moves⟩:=hc
 obtain ⟨od_tugs,od_pilots,od_rest,od_moves⟩:=hd
 refine zdm (fun A W=>by simp) Tryz.func81 rfl rfl (by simp) fun W0=>?_
 refine Wk ?_
 refine zc9 rfl (fun h0=>?_) (fun h0=>?_)
 ·refine Wk ?_
  refine zjE fun e=>?_
  rw [zkY,zkY,PCrew.mk.injEq] at e
  exact zjC h0 e.1
 refine Wk ?_
 refine zc9 rfl (fun h1=>?_) (fun h1=>?_)
 ·refine Wk ?_
  refine zjE fun e=>?_
  rw [zkY,zkY,PCrew.mk.injEq] at e
  exact zjC h1 e.2.1
 refine Wk ?_
 refine zc9 rfl (fun h2=>?_) (fun h2=>?_)
 ·refine Wk ?_
  refine zjE fun e=>?_
  rw [zkY,zkY,PCrew.mk.injEq] at e
  exact zjC h2 e.2.2.1
 repeat' first|refine zid rfl ?_|refine zc4 rfl ?_|refine zc7 ?_|refine zc8 ?_|refine zc5 ?_|refine zc6 ?_|refine zhE (fun _=>zxS _ _ _ oc_moves od_moves) ?_|(simp (maxSteps:=2000000) only [go_sem,yqa,yqb,yqc,yqd,yqe,yqf];try rfl)|refine zc3 ?_|(refine And.intro ?_ ?_;focus (intros;simp_all only [yqg,yqh,yqi,and_self,true_and,and_true];done))
 refine zc9 rfl (fun h3=>?_) (fun h3=>?_)
 ·refine Wk ?_
  refine zjE fun e=>?_
  rw [zkY,zkY,PCrew.mk.injEq] at e
  exact of_decide_eq_false (by simpa only [Bool.not_eq_true'] using h3) e.2.2.2
 refine Wk ?_
 refine zjF ?_
 rw [zkY,zkY,PCrew.mk.injEq]
 exact ⟨zjD h0,zjD h1,zjD h2,of_decide_eq_true (by simpa only [Bool.not_eq_false'] using h3)⟩
theorem zx2 (a b:Sl DPart) (h:Hp) (ha:a.Ok h) (hb:b.Ok h):Ct Tryz.prog 222 [a.val,b.val] h fun v h'=>v=.bool (decide (Con.con a=Con.con b))∧h'=h:=by
 have hl:=ha.max
 have hA:(Con.con a).length=a.l.length:=List.length_map ..
 have hB:(Con.con b).length=b.l.length:=List.length_map ..
 refine zdm (fun A W=>by simp) Tryz.func222 rfl rfl (by simp) fun W0=>?_
 refine Wk ?_
 refine zc9 rfl (fun hc=>?_) (fun hc=>?_)
 ·refine Wk ?_
  exact zjE fun e=>zjC hc (by rw [← hA,← hB,e])
 have hlen:a.l.length=b.l.length:=by have:=zjD hc;omega
 refine Wk ?_
 refine zdd (ι:=Nat) (fun k=>⟨[(0,true,.c (.v a.val)),(1,true,.c (.v b.val)),(5,true,.c (.v (.int .i64 k)))],[],h,0⟩) (fun k=>k≤a.l.length∧(Con.con a).take k=(Con.con b).take k) (fun k=>a.l.length - k) 0 ⟨Nat.zero_le _,rfl⟩ ?_ ?_
 ·refine Evs ?_
  rfl
 intro k hk
 refine Wk ?_
 refine zc9 rfl (fun hc=>?_) (fun hc=>?_)
 ·have hlt:=zjG hc
  have hlt':k < b.l.length:=by omega
  have gA:(Con.con a)[k]'(by omega)=Con.con a.l[k]:=List.getElem_map ..
  have gB:(Con.con b)[k]'(by omega)=Con.con b.l[k]:=List.getElem_map ..
  refine Wk ?_
  refine ziU rfl ?_
  refine zi2 [0,1,2,3,4,5,6,7] rfl (by kernel_rfl) ?_
  simp (maxSteps:=2000000) only [go_sem,yqa,yqb,yqc,yqd,yqe,yqf,zk1 ha hlt,ha.some hlt,zk1 hb hlt',hb.some hlt',hlt,hlt']
  refine ziS [8] (by kernel_rfl) (by kernel_rfl) ?_
  simp (maxSteps:=2000000) only [go_sem,yqa,yqb,yqc,yqd,yqe,yqf,zk1 ha hlt,ha.some hlt,zk1 hb hlt',hb.some hlt',hlt,hlt']
  refine zhE (fun _=>zxT _ _ _ (ha.el hlt) (hb.el hlt')) ?_
  simp (maxSteps:=2000000) only [go_sem,yqa,yqb,yqc,yqd,yqe,yqf,zk1 ha hlt,ha.some hlt,zk1 hb hlt',hb.some hlt',hlt,hlt']
  refine zi2 [9] rfl (by kernel_rfl) ?_
  refine Evs ?_
  refine ziT (by kernel_rfl) ?_
  refine Wk ?_
  refine zc9 rfl (fun hd=>?_) (fun hd=>?_)
  ·refine Wk ?_
   refine zjE fun e=>(of_decide_eq_false (by simpa only [Bool.not_eq_true'] using hd):¬ Con.con a.l[k]=Con.con b.l[k]) ?_
   rw [← gA,← gB];simp only [e]
  ·refine Wk ?_
   exact ⟨k+1,⟨hlt,zjB (by omega) (by omega) hk.2 (by rw [gA,gB];exact of_decide_eq_true (by simpa only [Bool.not_eq_false'] using hd))⟩,by omega,zjA (zjz hlt (by omega))⟩
 ·have hge:=zjH hc
  refine Wk ?_
  refine zjF ?_
  have:=hk.2
  rwa [List.take_of_length_le (by omega),List.take_of_length_le (by omega)] at this
theorem zx3 (a b:Sl DPassage) (h:Hp) (ha:a.Ok h) (hb:b.Ok h):Ct Tryz.prog 101 [a.val,b.val] h fun v h'=>v=.bool (decide (Con.con a=Con.con b))∧h'=h:=by
 have hl:=ha.max
 have hA:(Con.con a).length=a.l.length:=List.length_map ..
 have hB:(Con.con b).length=b.l.length:=List.length_map ..
 refine zdm (fun A W=>by simp) Tryz.func101 rfl rfl (by simp) fun W0=>?_
 refine Wk ?_
 refine zc9 rfl (fun hc=>?_) (fun hc=>?_)
 ·refine Wk ?_
  exact zjE fun e=>zjC hc (by rw [← hA,← hB,e])
 have hlen:a.l.length=b.l.length:=by have:=zjD hc;omega
 refine Wk ?_
 refine zdd (ι:=Nat) (fun k=>⟨[(0,true,.c (.v a.val)),(1,true,.c (.v b.val)),(5,true,.c (.v (.int .i64 k)))],[],h,0⟩) (fun k=>k≤a.l.length∧(Con.con a).take k=(Con.con b).take k) (fun k=>a.l.length - k) 0 ⟨Nat.zero_le _,rfl⟩ ?_ ?_
 ·refine Evs ?_
  rfl
 intro k hk
 refine Wk ?_
 refine zc9 rfl (fun hc=>?_) (fun hc=>?_)
 ·have hlt:=zjG hc
  have hlt':k < b.l.length:=by omega
  have gA:(Con.con a)[k]'(by omega)=Con.con a.l[k]:=List.getElem_map ..
  have gB:(Con.con b)[k]'(by omega)=Con.con b.l[k]:=List.getElem_map ..
  refine Wk ?_
  refine ziU rfl ?_
  refine zi2 [0,1,2,3,4,5,6,7] rfl (by kernel_rfl) ?_
  simp (maxSteps:=2000000) only [go_sem,yqa,yqb,yqc,yqd,yqe,yqf,zkS ha hlt,ha.some hlt,zkS hb hlt',hb.some hlt',hlt,hlt']
  refine ziS [8] (by kernel_rfl) (by kernel_rfl) ?_
  simp (maxSteps:=2000000) only [go_sem,yqa,yqb,yqc,yqd,yqe,yqf,zkS ha hlt,ha.some hlt,zkS hb hlt',hb.some hlt',hlt,hlt']
  refine zhE (fun _=>zxU _ _ _ (ha.el hlt) (hb.el hlt')) ?_
  simp (maxSteps:=2000000) only [go_sem,yqa,yqb,yqc,yqd,yqe,yqf,zkS ha hlt,ha.some hlt,zkS hb hlt',hb.some hlt',hlt,hlt']
  refine zi2 [9] rfl (by kernel_rfl) ?_
  refine Evs ?_
  refine ziT (by kernel_rfl) ?_
  refine Wk ?_
  refine zc9 rfl (fun hd=>?_) (fun hd=>?_)
  ·refine Wk ?_
   refine zjE fun e=>(of_decide_eq_false (by simpa only [Bool.not_eq_true'] using hd):¬ Con.con a.l[k]=Con.con b.l[k]) ?_
   rw [← gA,← gB];simp only [e]
  ·refine Wk ?_
   exact ⟨k+1,⟨hlt,zjB (by omega) (by omega) hk.2 (by rw [gA,gB];exact of_decide_eq_true (by simpa only [Bool.not_eq_false'] using hd))⟩,by omega,zjA (zjz hlt (by omega))⟩
 ·have hge:=zjH hc
  refine Wk ?_
  refine zjF ?_
  have:=hk.2
  rwa [List.take_of_length_le (by omega),List.take_of_length_le (by omega)] at this
theorem zx4 (a b:Sl DPoint) (h:Hp) (ha:a.Ok h) (hb:b.Ok h):Ct Tryz.prog 155 [a.val,b.val] h fun v h'=>v=.bool (decide (Con.con a=Con.con b))∧h'=h:=by
 have hl:=ha.max
 have hA:(Con.con a).length=a.l.length:=List.length_map ..
 have hB:(Con.con b).length=b.l.length:=List.length_map ..
 refine zdm (fun A W=>by simp) Tryz.func155 rfl rfl (by simp) fun W0=>?_
 refine Wk ?_
 refine zc9 rfl (fun hc=>?_) (fun hc=>?_)
 ·refine Wk ?_
  exact zjE fun e=>zjC hc (by rw [← hA,← hB,e])
 have hlen:a.l.length=b.l.length:=by have:=zjD hc;omega
 refine Wk ?_
 refine zdd (ι:=Nat) (fun k=>⟨[(0,true,.c (.v a.val)),(1,true,.c (.v b.val)),(5,true,.c (.v (.int .i64 k)))],[],h,0⟩) (fun k=>k≤a.l.length∧(Con.con a).take k=(Con.con b).take k) (fun k=>a.l.length - k) 0 ⟨Nat.zero_le _,rfl⟩ ?_ ?_
 ·refine Evs ?_
  rfl
 intro k hk
 refine Wk ?_
 refine zc9 rfl (fun hc=>?_) (fun hc=>?_)
 ·have hlt:=zjG hc
  have hlt':k < b.l.length:=by omega
  have gA:(Con.con a)[k]'(by omega)=Con.con a.l[k]:=List.getElem_map ..
  have gB:(Con.con b)[k]'(by omega)=Con.con b.l[k]:=List.getElem_map ..
  refine Wk ?_
  refine ziU rfl ?_
  refine zi2 [0,1,2,3,4,5,6,7] rfl (by kernel_rfl) ?_
  simp (maxSteps:=2000000) only [go_sem,yqa,yqb,yqc,yqd,yqe,yqf,zlc ha hlt,ha.some hlt,zlc hb hlt',hb.some hlt',hlt,hlt']
  refine ziS [8] (by kernel_rfl) (by kernel_rfl) ?_
  simp (maxSteps:=2000000) only [go_sem,yqa,yqb,yqc,yqd,yqe,yqf,zlc ha hlt,ha.some hlt,zlc hb hlt',hb.some hlt',hlt,hlt']
  refine zhE (fun _=>zxV _ _ _ (ha.el hlt) (hb.el hlt')) ?_
  simp (maxSteps:=2000000) only [go_sem,yqa,yqb,yqc,yqd,yqe,yqf,zlc ha hlt,ha.some hlt,zlc hb hlt',hb.some hlt',hlt,hlt']
  refine zi2 [9] rfl (by kernel_rfl) ?_
  refine Evs ?_
  refine ziT (by kernel_rfl) ?_
  refine Wk ?_
  refine zc9 rfl (fun hd=>?_) (fun hd=>?_)
  ·refine Wk ?_
   refine zjE fun e=>(of_decide_eq_false (by simpa only [Bool.not_eq_true'] using hd):¬ Con.con a.l[k]=Con.con b.l[k]) ?_
   rw [← gA,← gB];simp only [e]
  ·refine Wk ?_
   exact ⟨k+1,⟨hlt,zjB (by omega) (by omega) hk.2 (by rw [gA,gB];exact of_decide_eq_true (by simpa only [Bool.not_eq_false'] using hd))⟩,by omega,zjA (zjz hlt (by omega))⟩
 ·have hge:=zjH hc
  refine Wk ?_
  refine zjF ?_
  have:=hk.2
  rwa [List.take_of_length_le (by omega),List.take_of_length_le (by omega)] at this
theorem zx5 (a b:Sl DSegment) (h:Hp) (ha:a.Ok h) (hb:b.Ok h):Ct Tryz.prog 156 [a.val,b.val] h fun v h'=>v=.bool (decide (Con.con a=Con.con b))∧h'=h:=by
 have hl:=ha.max
 have hA:(Con.con a).length=a.l.length:=List.length_map ..
 have hB:(Con.con b).length=b.l.length:=List.length_map ..
 refine zdm (fun A W=>by simp) Tryz.func156 rfl rfl (by simp) fun W0=>?_
 refine Wk ?_
 refine zc9 rfl (fun hc=>?_) (fun hc=>?_)
 ·refine Wk ?_
  exact zjE fun e=>zjC hc (by rw [← hA,← hB,e])
 have hlen:a.l.length=b.l.length:=by have:=zjD hc;omega
 refine Wk ?_
 refine zdd (ι:=Nat) (fun k=>⟨[(0,true,.c (.v a.val)),(1,true,.c (.v b.val)),(5,true,.c (.v (.int .i64 k)))],[],h,0⟩) (fun k=>k≤a.l.length∧(Con.con a).take k=(Con.con b).take k) (fun k=>a.l.length - k) 0 ⟨Nat.zero_le _,rfl⟩ ?_ ?_
 ·refine Evs ?_
  rfl
 intro k hk
 refine Wk ?_
 refine zc9 rfl (fun hc=>?_) (fun hc=>?_)
 ·have hlt:=zjG hc
  have hlt':k < b.l.length:=by omega
  have gA:(Con.con a)[k]'(by omega)=Con.con a.l[k]:=List.getElem_map ..
  have gB:(Con.con b)[k]'(by omega)=Con.con b.l[k]:=List.getElem_map ..
  refine Wk ?_
  refine ziU rfl ?_
  refine zi2 [0,1,2,3,4,5,6,7] rfl (by kernel_rfl) ?_
  simp (maxSteps:=2000000) only [go_sem,yqa,yqb,yqc,yqd,yqe,yqf,zle ha hlt,ha.some hlt,zle hb hlt',hb.some hlt',hlt,hlt']
  refine ziS [8] (by kernel_rfl) (by kernel_rfl) ?_
  simp (maxSteps:=2000000) only [go_sem,yqa,yqb,yqc,yqd,yqe,yqf,zle ha hlt,ha.some hlt,zle hb hlt',hb.some hlt',hlt,hlt']
  refine zhE (fun _=>zxX _ _ _ (ha.el hlt) (hb.el hlt')) ?_
  simp (maxSteps:=2000000) only [go_sem,yqa,yqb,yqc,yqd,yqe,yqf,zle ha hlt,ha.some hlt,zle hb hlt',hb.some hlt',hlt,hlt']
  refine zi2 [9] rfl (by kernel_rfl) ?_
  refine Evs ?_
  refine ziT (by kernel_rfl) ?_
  refine Wk ?_
  refine zc9 rfl (fun hd=>?_) (fun hd=>?_)
  ·refine Wk ?_
   refine zjE fun e=>(of_decide_eq_false (by simpa only [Bool.not_eq_true'] using hd):¬ Con.con a.l[k]=Con.con b.l[k]) ?_
   rw [← gA,← gB];simp only [e]
  ·refine Wk ?_
   exact ⟨k+1,⟨hlt,zjB (by omega) (by omega) hk.2 (by rw [gA,gB];exact of_decide_eq_true (by simpa only [Bool.not_eq_false'] using hd))⟩,by omega,zjA (zjz hlt (by omega))⟩
 ·have hge:=zjH hc
  refine Wk ?_
  refine zjF ?_
  have:=hk.2
  rwa [List.take_of_length_le (by omega),List.take_of_length_le (by omega)] at this
theorem zx6 (a b:Sl DShip) (h:Hp) (ha:a.Ok h) (hb:b.Ok h):Ct Tryz.prog 79 [a.val,b.val] h fun v h'=>v=.bool (decide (Con.con a=Con.con b))∧h'=h:=by
 have hl:=ha.max
 have hA:(Con.con a).length=a.l.length:=List.length_map ..
 have hB:(Con.con b).length=b.l.length:=List.length_map ..
 refine zdm (fun A W=>by simp) Tryz.func79 rfl rfl (by simp) fun W0=>?_
 refine Wk ?_
 refine zc9 rfl (fun hc=>?_) (fun hc=>?_)
 ·refine Wk ?_
  exact zjE fun e=>zjC hc (by rw [← hA,← hB,e])
 have hlen:a.l.length=b.l.length:=by have:=zjD hc;omega
 refine Wk ?_
 refine zdd (ι:=Nat) (fun k=>⟨[(0,true,.c (.v a.val)),(1,true,.c (.v b.val)),(5,true,.c (.v (.int .i64 k)))],[],h,0⟩) (fun k=>k≤a.l.length∧(Con.con a).take k=(Con.con b).take k) (fun k=>a.l.length - k) 0 ⟨Nat.zero_le _,rfl⟩ ?_ ?_
 ·refine Evs ?_
  rfl
 intro k hk
 refine Wk ?_
 refine zc9 rfl (fun hc=>?_) (fun hc=>?_)
 ·have hlt:=zjG hc
  have hlt':k < b.l.length:=by omega
  have gA:(Con.con a)[k]'(by omega)=Con.con a.l[k]:=List.getElem_map ..
  have gB:(Con.con b)[k]'(by omega)=Con.con b.l[k]:=List.getElem_map ..
  refine Wk ?_
  refine ziU rfl ?_
  refine zi2 [0,1,2,3,4,5,6,7] rfl (by kernel_rfl) ?_
  simp (maxSteps:=2000000) only [go_sem,yqa,yqb,yqc,yqd,yqe,yqf,zlk ha hlt,ha.some hlt,zlk hb hlt',hb.some hlt',hlt,hlt']
  refine ziS [8] (by kernel_rfl) (by kernel_rfl) ?_
  simp (maxSteps:=2000000) only [go_sem,yqa,yqb,yqc,yqd,yqe,yqf,zlk ha hlt,ha.some hlt,zlk hb hlt',hb.some hlt',hlt,hlt']
  refine zhE (fun _=>zxY _ _ _ (ha.el hlt) (hb.el hlt')) ?_
  simp (maxSteps:=2000000) only [go_sem,yqa,yqb,yqc,yqd,yqe,yqf,zlk ha hlt,ha.some hlt,zlk hb hlt',hb.some hlt',hlt,hlt']
  refine zi2 [9] rfl (by kernel_rfl) ?_
  refine Evs ?_
  refine ziT (by kernel_rfl) ?_
  refine Wk ?_
  refine zc9 rfl (fun hd=>?_) (fun hd=>?_)
  ·refine Wk ?_
   refine zjE fun e=>(of_decide_eq_false (by simpa only [Bool.not_eq_true'] using hd):¬ Con.con a.l[k]=Con.con b.l[k]) ?_
   rw [← gA,← gB];simp only [e]
  ·refine Wk ?_
   exact ⟨k+1,⟨hlt,zjB (by omega) (by omega) hk.2 (by rw [gA,gB];exact of_decide_eq_true (by simpa only [Bool.not_eq_false'] using hd))⟩,by omega,zjA (zjz hlt (by omega))⟩
 ·have hge:=zjH hc
  refine Wk ?_
  refine zjF ?_
  have:=hk.2
  rwa [List.take_of_length_le (by omega),List.take_of_length_le (by omega)] at this
theorem zx7 (a b:Sl DSurge) (h:Hp) (ha:a.Ok h) (hb:b.Ok h):Ct Tryz.prog 154 [a.val,b.val] h fun v h'=>v=.bool (decide (Con.con a=Con.con b))∧h'=h:=by
 have hl:=ha.max
 have hA:(Con.con a).length=a.l.length:=List.length_map ..
 have hB:(Con.con b).length=b.l.length:=List.length_map ..
 refine zdm (fun A W=>by simp) Tryz.func154 rfl rfl (by simp) fun W0=>?_
 refine Wk ?_
 refine zc9 rfl (fun hc=>?_) (fun hc=>?_)
 ·refine Wk ?_
  exact zjE fun e=>zjC hc (by rw [← hA,← hB,e])
 have hlen:a.l.length=b.l.length:=by have:=zjD hc;omega
 refine Wk ?_
 refine zdd (ι:=Nat) (fun k=>⟨[(0,true,.c (.v a.val)),(1,true,.c (.v b.val)),(5,true,.c (.v (.int .i64 k)))],[],h,0⟩) (fun k=>k≤a.l.length∧(Con.con a).take k=(Con.con b).take k) (fun k=>a.l.length - k) 0 ⟨Nat.zero_le _,rfl⟩ ?_ ?_
 ·refine Evs ?_
  rfl
 intro k hk
 refine Wk ?_
 refine zc9 rfl (fun hc=>?_) (fun hc=>?_)
 ·have hlt:=zjG hc
  have hlt':k < b.l.length:=by omega
  have gA:(Con.con a)[k]'(by omega)=Con.con a.l[k]:=List.getElem_map ..
  have gB:(Con.con b)[k]'(by omega)=Con.con b.l[k]:=List.getElem_map ..
  refine Wk ?_
  refine ziU rfl ?_
  refine zi2 [0,1,2,3,4,5,6,7] rfl (by kernel_rfl) ?_
  simp (maxSteps:=2000000) only [go_sem,yqa,yqb,yqc,yqd,yqe,yqf,zk6 ha hlt,ha.some hlt,zk6 hb hlt',hb.some hlt',hlt,hlt']
  refine ziS [8] (by kernel_rfl) (by kernel_rfl) ?_
  simp (maxSteps:=2000000) only [go_sem,yqa,yqb,yqc,yqd,yqe,yqf,zk6 ha hlt,ha.some hlt,zk6 hb hlt',hb.some hlt',hlt,hlt']
  refine zhE (fun _=>zxZ _ _ _ (ha.el hlt) (hb.el hlt')) ?_
  simp (maxSteps:=2000000) only [go_sem,yqa,yqb,yqc,yqd,yqe,yqf,zk6 ha hlt,ha.some hlt,zk6 hb hlt',hb.some hlt',hlt,hlt']
  refine zi2 [9] rfl (by kernel_rfl) ?_
  refine Evs ?_
  refine ziT (by kernel_rfl) ?_
  refine Wk ?_
  refine zc9 rfl (fun hd=>?_) (fun hd=>?_)
  ·refine Wk ?_
   refine zjE fun e=>(of_decide_eq_false (by simpa only [Bool.not_eq_true'] using hd):¬ Con.con a.l[k]=Con.con b.l[k]) ?_
   rw [← gA,← gB];simp only [e]
  ·refine Wk ?_
   exact ⟨k+1,⟨hlt,zjB (by omega) (by omega) hk.2 (by rw [gA,gB];exact of_decide_eq_true (by simpa only [Bool.not_eq_false'] using hd))⟩,by omega,zjA (zjz hlt (by omega))⟩
 ·have hge:=zjH hc
  refine Wk ?_
  refine zjF ?_
  have:=hk.2
  rwa [List.take_of_length_le (by omega),List.take_of_length_le (by omega)] at this
theorem zx8 (c d:DChart) (h:Hp) (hc:Enc.ok h c) (hd:Enc.ok h d):Ct Tryz.prog 78 [.agg #[c.points.val,c.segments.val],.agg #[d.points.val,d.segments.val]] h fun v h'=>v=.bool (decide (Con.con c=Con.con d))∧h'=h:=by
 obtain ⟨oc_points,oc_segments⟩:=hc
 obtain ⟨od_points,od_segments⟩:=hd
 refine zdm (fun A W=>by simp) Tryz.func78 rfl rfl (by simp) fun W0=>?_
 repeat' first|refine zid rfl ?_|refine zc4 rfl ?_|refine zc7 ?_|refine zc8 ?_|refine zc5 ?_|refine zc6 ?_|refine zhE (fun _=>zx4 _ _ _ oc_points od_points) ?_|(simp (maxSteps:=2000000) only [go_sem,yqa,yqb,yqc,yqd,yqe,yqf];try rfl)|refine zc3 ?_|(refine And.intro ?_ ?_;focus (intros;simp_all only [yqg,yqh,yqi,and_self,true_and,and_true];done))
 refine zc9 rfl (fun h0=>?_) (fun h0=>?_)
 ·refine Wk ?_
  refine zjE fun e=>?_
  rw [zlg,zlg,PChart.mk.injEq] at e
  exact of_decide_eq_false (by simpa only [Bool.not_eq_true'] using h0) e.1
 repeat' first|refine zid rfl ?_|refine zc4 rfl ?_|refine zc7 ?_|refine zc8 ?_|refine zc5 ?_|refine zc6 ?_|refine zhE (fun _=>zx5 _ _ _ oc_segments od_segments) ?_|(simp (maxSteps:=2000000) only [go_sem,yqa,yqb,yqc,yqd,yqe,yqf];try rfl)|refine zc3 ?_|(refine And.intro ?_ ?_;focus (intros;simp_all only [yqg,yqh,yqi,and_self,true_and,and_true];done))
 refine zc9 rfl (fun h1=>?_) (fun h1=>?_)
 ·refine Wk ?_
  refine zjE fun e=>?_
  rw [zlg,zlg,PChart.mk.injEq] at e
  exact of_decide_eq_false (by simpa only [Bool.not_eq_true'] using h1) e.2
 refine Wk ?_
 refine zjF ?_
 rw [zlg,zlg,PChart.mk.injEq]
 exact ⟨of_decide_eq_true (by simpa only [Bool.not_eq_false'] using h0),of_decide_eq_true (by simpa only [Bool.not_eq_false'] using h1)⟩
theorem zx9 (c d:DOption) (h:Hp) (hc:Enc.ok h c) (hd:Enc.ok h d):Ct Tryz.prog 34 [.agg #[.int .i64 c.start,.int .i64 c.arr,.int .i64 c.cost,c.pas.val],.agg #[.int .i64 d.start,.int .i64 d.arr,.int .i64 d.cost,d.pas.val]] h fun v h'=>v=.bool (decide (Con.con c=Con.con d))∧h'=h:=by
 obtain ⟨oc_start,oc_arr,oc_cost,oc_pas⟩:=hc
 obtain ⟨od_start,od_arr,od_cost,od_pas⟩:=hd
 refine zdm (fun A W=>by simp) Tryz.func34 rfl rfl (by simp) fun W0=>?_
 refine Wk ?_
 refine zc9 rfl (fun h0=>?_) (fun h0=>?_)
 ·refine Wk ?_
  refine zjE fun e=>?_
  rw [zkU,zkU,POption.mk.injEq] at e
  exact zjC h0 e.1
 refine Wk ?_
 refine zc9 rfl (fun h1=>?_) (fun h1=>?_)
 ·refine Wk ?_
  refine zjE fun e=>?_
  rw [zkU,zkU,POption.mk.injEq] at e
  exact zjC h1 e.2.1
 refine Wk ?_
 refine zc9 rfl (fun h2=>?_) (fun h2=>?_)
 ·refine Wk ?_
  refine zjE fun e=>?_
  rw [zkU,zkU,POption.mk.injEq] at e
  exact zjC h2 e.2.2.1
 repeat' first|refine zid rfl ?_|refine zc4 rfl ?_|refine zc7 ?_|refine zc8 ?_|refine zc5 ?_|refine zc6 ?_|refine zhE (fun _=>zx3 _ _ _ oc_pas od_pas) ?_|(simp (maxSteps:=2000000) only [go_sem,yqa,yqb,yqc,yqd,yqe,yqf];try rfl)|refine zc3 ?_|(refine And.intro ?_ ?_;focus (intros;simp_all only [yqg,yqh,yqi,and_self,true_and,and_true];done))
 refine zc9 rfl (fun h3=>?_) (fun h3=>?_)
 ·refine Wk ?_
  refine zjE fun e=>?_
  rw [zkU,zkU,POption.mk.injEq] at e
  exact of_decide_eq_false (by simpa only [Bool.not_eq_true'] using h3) e.2.2.2
 refine Wk ?_
 refine zjF ?_
 rw [zkU,zkU,POption.mk.injEq]
 exact ⟨zjD h0,zjD h1,zjD h2,of_decide_eq_true (by simpa only [Bool.not_eq_false'] using h3)⟩
theorem zya (c d:DTide) (h:Hp) (hc:Enc.ok h c) (hd:Enc.ok h d):Ct Tryz.prog 153 [.agg #[.int .i64 c.mean,c.parts.val],.agg #[.int .i64 d.mean,d.parts.val]] h fun v h'=>v=.bool (decide (Con.con c=Con.con d))∧h'=h:=by
 obtain ⟨oc_mean,oc_parts⟩:=hc
 obtain ⟨od_mean,od_parts⟩:=hd
 refine zdm (fun A W=>by simp) Tryz.func153 rfl rfl (by simp) fun W0=>?_
 refine Wk ?_
 refine zc9 rfl (fun h0=>?_) (fun h0=>?_)
 ·refine Wk ?_
  refine zjE fun e=>?_
  rw [zk3,zk3,PTide.mk.injEq] at e
  exact zjC h0 e.1
 repeat' first|refine zid rfl ?_|refine zc4 rfl ?_|refine zc7 ?_|refine zc8 ?_|refine zc5 ?_|refine zc6 ?_|refine zhE (fun _=>zx2 _ _ _ oc_parts od_parts) ?_|(simp (maxSteps:=2000000) only [go_sem,yqa,yqb,yqc,yqd,yqe,yqf];try rfl)|refine zc3 ?_|(refine And.intro ?_ ?_;focus (intros;simp_all only [yqg,yqh,yqi,and_self,true_and,and_true];done))
 refine zc9 rfl (fun h1=>?_) (fun h1=>?_)
 ·refine Wk ?_
  refine zjE fun e=>?_
  rw [zk3,zk3,PTide.mk.injEq] at e
  exact of_decide_eq_false (by simpa only [Bool.not_eq_true'] using h1) e.2
 refine Wk ?_
 refine zjF ?_
 rw [zk3,zk3,PTide.mk.injEq]
 exact ⟨zjD h0,of_decide_eq_true (by simpa only [Bool.not_eq_false'] using h1)⟩
theorem zyb (c d:DForecast) (h:Hp) (hc:Enc.ok h c) (hd:Enc.ok h d):Ct Tryz.prog 77 [.agg #[.int .i64 c.tide.mean,c.tide.parts.val,c.surges.val],.agg #[.int .i64 d.tide.mean,d.tide.parts.val,d.surges.val]] h fun v h'=>v=.bool (decide (Con.con c=Con.con d))∧h'=h:=by
 obtain ⟨oc_tide,oc_surges⟩:=hc
 obtain ⟨od_tide,od_surges⟩:=hd
 refine zdm (fun A W=>by simp) Tryz.func77 rfl rfl (by simp) fun W0=>?_
 repeat' first|refine zid rfl ?_|refine zc4 rfl ?_|refine zc7 ?_|refine zc8 ?_|refine zc5 ?_|refine zc6 ?_|refine zhE (fun _=>zya _ _ _ oc_tide od_tide) ?_|(simp (maxSteps:=2000000) only [go_sem,yqa,yqb,yqc,yqd,yqe,yqf];try rfl)|refine zc3 ?_|(refine And.intro ?_ ?_;focus (intros;simp_all only [yqg,yqh,yqi,and_self,true_and,and_true];done))
 refine zc9 rfl (fun h0=>?_) (fun h0=>?_)
 ·refine Wk ?_
  refine zjE fun e=>?_
  rw [zk8,zk8,PForecast.mk.injEq] at e
  exact of_decide_eq_false (by simpa only [Bool.not_eq_true'] using h0) e.1
 repeat' first|refine zid rfl ?_|refine zc4 rfl ?_|refine zc7 ?_|refine zc8 ?_|refine zc5 ?_|refine zc6 ?_|refine zhE (fun _=>zx7 _ _ _ oc_surges od_surges) ?_|(simp (maxSteps:=2000000) only [go_sem,yqa,yqb,yqc,yqd,yqe,yqf];try rfl)|refine zc3 ?_|(refine And.intro ?_ ?_;focus (intros;simp_all only [yqg,yqh,yqi,and_self,true_and,and_true];done))
 refine zc9 rfl (fun h1=>?_) (fun h1=>?_)
 ·refine Wk ?_
  refine zjE fun e=>?_
  rw [zk8,zk8,PForecast.mk.injEq] at e
  exact of_decide_eq_false (by simpa only [Bool.not_eq_true'] using h1) e.2
 refine Wk ?_
 refine zjF ?_
 rw [zk8,zk8,PForecast.mk.injEq]
 exact ⟨of_decide_eq_true (by simpa only [Bool.not_eq_false'] using h0),of_decide_eq_true (by simpa only [Bool.not_eq_false'] using h1)⟩
theorem zyc (a b:Sl DOption) (h:Hp) (ha:a.Ok h) (hb:b.Ok h):Ct Tryz.prog 41 [a.val,b.val] h fun v h'=>v=.bool (decide (Con.con a=Con.con b))∧h'=h:=by
 have hl:=ha.max
 have hA:(Con.con a).length=a.l.length:=List.length_map ..
 have hB:(Con.con b).length=b.l.length:=List.length_map ..
 refine zdm (fun A W=>by simp) Tryz.func41 rfl rfl (by simp) fun W0=>?_
 refine Wk ?_
 refine zc9 rfl (fun hc=>?_) (fun hc=>?_)
 ·refine Wk ?_
  exact zjE fun e=>zjC hc (by rw [← hA,← hB,e])
 have hlen:a.l.length=b.l.length:=by have:=zjD hc;omega
 refine Wk ?_
 refine zdd (ι:=Nat) (fun k=>⟨[(0,true,.c (.v a.val)),(1,true,.c (.v b.val)),(5,true,.c (.v (.int .i64 k)))],[],h,0⟩) (fun k=>k≤a.l.length∧(Con.con a).take k=(Con.con b).take k) (fun k=>a.l.length - k) 0 ⟨Nat.zero_le _,rfl⟩ ?_ ?_
 ·refine Evs ?_
  rfl
 intro k hk
 refine Wk ?_
 refine zc9 rfl (fun hc=>?_) (fun hc=>?_)
 ·have hlt:=zjG hc
  have hlt':k < b.l.length:=by omega
  have gA:(Con.con a)[k]'(by omega)=Con.con a.l[k]:=List.getElem_map ..
  have gB:(Con.con b)[k]'(by omega)=Con.con b.l[k]:=List.getElem_map ..
  refine Wk ?_
  refine ziU rfl ?_
  refine zi2 [0,1,2,3,4,5,6,7] rfl (by kernel_rfl) ?_
  simp (maxSteps:=2000000) only [go_sem,yqa,yqb,yqc,yqd,yqe,yqf,zkW ha hlt,ha.some hlt,zkW hb hlt',hb.some hlt',hlt,hlt']
  refine ziS [8] (by kernel_rfl) (by kernel_rfl) ?_
  simp (maxSteps:=2000000) only [go_sem,yqa,yqb,yqc,yqd,yqe,yqf,zkW ha hlt,ha.some hlt,zkW hb hlt',hb.some hlt',hlt,hlt']
  refine zhE (fun _=>zx9 _ _ _ (ha.el hlt) (hb.el hlt')) ?_
  simp (maxSteps:=2000000) only [go_sem,yqa,yqb,yqc,yqd,yqe,yqf,zkW ha hlt,ha.some hlt,zkW hb hlt',hb.some hlt',hlt,hlt']
  refine zi2 [9] rfl (by kernel_rfl) ?_
  refine Evs ?_
  refine ziT (by kernel_rfl) ?_
  refine Wk ?_
  refine zc9 rfl (fun hd=>?_) (fun hd=>?_)
  ·refine Wk ?_
   refine zjE fun e=>(of_decide_eq_false (by simpa only [Bool.not_eq_true'] using hd):¬ Con.con a.l[k]=Con.con b.l[k]) ?_
   rw [← gA,← gB];simp only [e]
  ·refine Wk ?_
   exact ⟨k+1,⟨hlt,zjB (by omega) (by omega) hk.2 (by rw [gA,gB];exact of_decide_eq_true (by simpa only [Bool.not_eq_false'] using hd))⟩,by omega,zjA (zjz hlt (by omega))⟩
 ·have hge:=zjH hc
  refine Wk ?_
  refine zjF ?_
  have:=hk.2
  rwa [List.take_of_length_le (by omega),List.take_of_length_le (by omega)] at this
theorem zyd (c d:DHarbour) (h:Hp) (hc:Enc.ok h c) (hd:Enc.ok h d):Ct Tryz.prog 21 [.agg #[.int .i64 c.forecast.tide.mean,c.forecast.tide.parts.val,c.forecast.surges.val,c.chart.points.val,c.chart.segments.val,c.fleet.val,.int .i64 c.regime.gap,.bool c.regime.noMeet,.int .i64 c.crew.tugs,.int .i64 c.crew.pilots,.int .i64 c.crew.rest,c.crew.moves.val],.agg #[.int .i64 d.forecast.tide.mean,d.forecast.tide.parts.val,d.forecast.surges.val,d.chart.points.val,d.chart.segments.val,d.fleet.val,.int .i64 d.regime.gap,.bool d.regime.noMeet,.int .i64 d.crew.tugs,.int .i64 d.crew.pilots,.int .i64 d.crew.rest,d.crew.moves.val]] h fun v h'=>v=.bool (decide (Con.con c=Con.con d))∧h'=h:=by
 obtain ⟨oc_forecast,oc_chart,oc_fleet,oc_regime,oc_crew⟩:=hc
 obtain ⟨od_forecast,od_chart,od_fleet,od_regime,od_crew⟩:=hd
 refine zdm (fun A W=>by simp) Tryz.func21 rfl rfl (by simp) fun W0=>?_
 repeat' first|refine zid rfl ?_|refine zc4 rfl ?_|refine zc7 ?_|refine zc8 ?_|refine zc5 ?_|refine zc6 ?_|refine zhE (fun _=>zyb _ _ _ oc_forecast od_forecast) ?_|(simp (maxSteps:=2000000) only [go_sem,yqa,yqb,yqc,yqd,yqe,yqf];try rfl)|refine zc3 ?_|(refine And.intro ?_ ?_;focus (intros;simp_all only [yqg,yqh,yqi,and_self,true_and,and_true];done))
 refine zc9 rfl (fun h0=>?_) (fun h0=>?_)
 ·refine Wk ?_
  refine zjE fun e=>?_
  rw [zln,zln,PHarbour.mk.injEq] at e
  exact of_decide_eq_false (by simpa only [Bool.not_eq_true'] using h0) e.1
 repeat' first|refine zid rfl ?_|refine zc4 rfl ?_|refine zc7 ?_|refine zc8 ?_|refine zc5 ?_|refine zc6 ?_|refine zhE (fun _=>zx8 _ _ _ oc_chart od_chart) ?_|(simp (maxSteps:=2000000) only [go_sem,yqa,yqb,yqc,yqd,yqe,yqf];try rfl)|refine zc3 ?_|(refine And.intro ?_ ?_;focus (intros;simp_all only [yqg,yqh,yqi,and_self,true_and,and_true];done))
 refine zc9 rfl (fun h1=>?_) (fun h1=>?_)
 ·refine Wk ?_
  refine zjE fun e=>?_
  rw [zln,zln,PHarbour.mk.injEq] at e
  exact of_decide_eq_false (by simpa only [Bool.not_eq_true'] using h1) e.2.1
 repeat' first|refine zid rfl ?_|refine zc4 rfl ?_|refine zc7 ?_|refine zc8 ?_|refine zc5 ?_|refine zc6 ?_|refine zhE (fun _=>zx6 _ _ _ oc_fleet od_fleet) ?_|(simp (maxSteps:=2000000) only [go_sem,yqa,yqb,yqc,yqd,yqe,yqf];try rfl)|refine zc3 ?_|(refine And.intro ?_ ?_;focus (intros;simp_all only [yqg,yqh,yqi,and_self,true_and,and_true];done))
 refine zc9 rfl (fun h2=>?_) (fun h2=>?_)
 ·refine Wk ?_
  refine zjE fun e=>?_
  rw [zln,zln,PHarbour.mk.injEq] at e
  exact of_decide_eq_false (by simpa only [Bool.not_eq_true'] using h2) e.2.2.1
 repeat' first|refine zid rfl ?_|refine zc4 rfl ?_|refine zc7 ?_|refine zc8 ?_|refine zc5 ?_|refine zc6 ?_|refine zhE (fun _=>zxW _ _ _ oc_regime od_regime) ?_|(simp (maxSteps:=2000000) only [go_sem,yqa,yqb,yqc,yqd,yqe,yqf];try rfl)|refine zc3 ?_|(refine And.intro ?_ ?_;focus (intros;simp_all only [yqg,yqh,yqi,and_self,true_and,and_true];done))
 refine zc9 rfl (fun h3=>?_) (fun h3=>?_)
 ·refine Wk ?_
  refine zjE fun e=>?_
  rw [zln,zln,PHarbour.mk.injEq] at e
  exact of_decide_eq_false (by simpa only [Bool.not_eq_true'] using h3) e.2.2.2.1
 repeat' first|refine zid rfl ?_|refine zc4 rfl ?_|refine zc7 ?_|refine zc8 ?_|refine zc5 ?_|refine zc6 ?_|refine zhE (fun _=>zx1 _ _ _ oc_crew od_crew) ?_|(simp (maxSteps:=2000000) only [go_sem,yqa,yqb,yqc,yqd,yqe,yqf];try rfl)|refine zc3 ?_|(refine And.intro ?_ ?_;focus (intros;simp_all only [yqg,yqh,yqi,and_self,true_and,and_true];done))
 refine zc9 rfl (fun h4=>?_) (fun h4=>?_)
 ·refine Wk ?_
  refine zjE fun e=>?_
  rw [zln,zln,PHarbour.mk.injEq] at e
  exact of_decide_eq_false (by simpa only [Bool.not_eq_true'] using h4) e.2.2.2.2
 refine Wk ?_
 refine zjF ?_
 rw [zln,zln,PHarbour.mk.injEq]
 exact ⟨of_decide_eq_true (by simpa only [Bool.not_eq_false'] using h0),of_decide_eq_true (by simpa only [Bool.not_eq_false'] using h1),of_decide_eq_true (by simpa only [Bool.not_eq_false'] using h2),of_decide_eq_true (by simpa only [Bool.not_eq_false'] using h3),of_decide_eq_true (by simpa only [Bool.not_eq_false'] using h4)⟩
end Go.Proofs.YtbkaaakphpbmiaaGreat
namespace Go.Proofs.YtbkaaakphpbmiaaGreat
open Go Go.SL
set_option maxHeartbeats 1000000
theorem zye (n lo hi:Int) (h:Hp):Ct Tryz.prog 65 [.int .i64 n,.int .i64 lo,.int .i64 hi] h fun v h'=>v=.bool (decide (lo≤n) && decide (n≤hi))∧h'=h:=by
 refine zdm (fun A W=>by simp) Tryz.func65 rfl rfl (by simp) fun W0=>?_
 exact Wk0
theorem zyf (n lo hi:Int) (h:Hp):Ct Tryz.prog 98 [.int .i64 n,.int .i64 lo,.int .i64 hi] h fun v h'=>v=.bool (decide (lo≤n) && decide (n≤hi))∧h'=h:=by
 refine zdm (fun A W=>by simp) Tryz.func98 rfl rfl (by simp) fun W0=>?_
 exact Wk0
theorem zyg (n:Int) (h:Hp):Ct Tryz.prog 149 [.int .i64 n] h fun v h'=>v=.bool (decide (0≤n) && decide (n≤2880))∧h'=h:=by
 refine zdm (fun A W=>by simp) Tryz.func149 rfl rfl (by simp) fun W0=>?_
 repeat' first|refine zid rfl ?_|refine zc4 rfl ?_|refine zc7 ?_|refine zc8 ?_|refine zc5 ?_|refine zc6 ?_|refine zhE (fun _=>zyf _ _ _ _) ?_|(simp (maxSteps:=2000000) only [go_sem,yqa,yqb,yqc,yqd,yqe,yqf];try rfl)|refine zc3 ?_|(refine And.intro ?_ ?_;focus (intros;simp_all only [yqg,yqh,yqi,and_self,true_and,and_true];done))
theorem zyh (n m:Int) (h:Hp):Ct Tryz.prog 109 [.int .i64 n,.int .i64 m] h fun v h'=>v=.bool (decide (0≤n) && decide (n < m))∧h'=h:=by
 refine zdm (fun A W=>by simp) Tryz.func109 rfl rfl (by simp) fun W0=>?_
 exact Wk0
end Go.Proofs.YtbkaaakphpbmiaaGreat
namespace Go.Proofs.YtbkaaakphpbmiaaGreat
open Go Go.SL
set_option maxHeartbeats 1000000
theorem zHF (s:Sl DPassage):Con.con s=s.l:=List.map_id _
theorem zHG (n:Int):zaH Tryz.prog 3 (.int .i64 n)=True:=by
 simp only [zaH,Tryz.underlying3,Value.isI]
theorem zHH (p q:DPassage):(!(p.ship == q.ship && (p.seg == q.seg && (p.toward == q.toward && (p.start == q.start && p.fin == q.fin)))))=!decide (p=q):=by
 congr 1
 rw [Bool.eq_iff_iff]
 simp only [yqi,beq_iff_eq,decide_eq_true_eq]
 cases p;cases q;simp only [DPassage.mk.injEq]
theorem zHI (a b:Sl DPassage) (h:Hp) (ha:a.Ok h) (hb:b.Ok h):Ct Tryz.prog 206 [a.val,b.val] h fun v h'=>v=.bool (decide (a.l=b.l))∧h'=h:=by
 have hl:=ha.max
 refine zdm (fun A W=>by simp) Tryz.func206 rfl rfl (by simp) fun W0=>?_
 refine Wk ?_
 refine zc9 rfl (fun hc=>?_) (fun hc=>?_)
 ·refine Wk ?_
  exact zjE fun e=>zjC hc (by rw [e])
 have hlen:a.l.length=b.l.length:=by have:=zjD hc;omega
 refine Wk ?_
 refine zdd (ι:=Nat) (fun k=>⟨[(0,true,.c (.v a.val)),(1,true,.c (.v b.val)),(12,true,.c (.v (.int .i64 a.l.length))),(13,true,.c (.v (.int .i64 k)))],[],h,0⟩) (fun k=>k≤a.l.length∧a.l.take k=b.l.take k) (fun k=>a.l.length - k) 0 ⟨Nat.zero_le _,rfl⟩ ?_ ?_
 ·refine Evs ?_
  rfl
 intro k hk
 refine Wk ?_
 refine zc9 rfl (fun hc=>?_) (fun hc=>?_)
 ·have hlt:=zjG hc
  have hlt':k < b.l.length:=by omega
  refine Wk ?_
  refine zi7 rfl (by kernel_rfl) ?_
  simp (maxSteps:=2000000) only [go_sem,yqa,yqb,yqc,yqd,yqe,yqf,zkS ha hlt,ha.some hlt,zkS hb hlt',hb.some hlt',hlt,hlt',zHG,String.reduceEq,not_false_eq_true,and_self,true_and]
  refine zc9 rfl (fun hd=>?_) (fun hd=>?_)
  ·refine Wk ?_
   refine zjE fun e=>?_
   rw [zHH] at hd
   exact of_decide_eq_false (by simpa using hd) (by simp only [e])
  ·refine Wk ?_
   rw [zHH] at hd
   exact ⟨k+1,⟨hlt,zjB hlt hlt' hk.2 (of_decide_eq_true (by simpa using hd))⟩,by omega,zjA (zjz hlt (by omega))⟩
 ·have hge:=zjH hc
  refine Wk ?_
  refine zjF ?_
  have:=hk.2
  rwa [List.take_of_length_le hge,List.take_of_length_le (by omega)] at this
def zHJ (a b:POption):Bool:=decide (a=b)
theorem zHK (a b:DOption):zHJ (Con.con a) (Con.con b)=decide (a.start=b.start∧a.arr=b.arr∧a.cost=b.cost∧a.pas.l=b.pas.l):=by
 unfold zHJ
 simp only [zkU,POption.mk.injEq,zHm,zHF]
theorem zHL (a b:DOption) (h:Hp) (ha:Enc.ok h a) (hb:Enc.ok h b):Ct Tryz.prog 128 [a.v,b.v] h fun v h'=>v=.bool (zHJ (Con.con a) (Con.con b))∧h'=h:=by
 rw [zHK]
 refine zdm (fun A W=>by simp) Tryz.func128 rfl rfl (by simp) fun W0=>?_
 repeat' first|refine zid rfl ?_|refine zc4 rfl ?_|refine zc7 ?_|refine zc8 ?_|refine zc5 ?_|refine zc6 ?_|refine zhE (fun _=>zHI _ _ _ ha.2.2.2 hb.2.2.2) ?_|(simp (maxSteps:=2000000) only [go_sem,yqa,yqb,yqc,yqd,yqe,yqf];try rfl)|refine zc3 ?_|(refine And.intro ?_ ?_;focus (intros;simp_all only [yqg,yqh,yqi,and_self,true_and,and_true];done))
 congr 1
 rw [Bool.eq_iff_iff]
 simp only [yqi,beq_iff_eq,decide_eq_true_eq,and_assoc]
theorem zHM (a b:DOption) (h:Hp) (ha:Enc.ok h a) (hb:Enc.ok h b):Ct Tryz.prog 124 [a.v,b.v] h fun v h'=>v=.bool (zHJ (Con.con a) (Con.con b))∧h'=h:=by
 have hp:=ha.2.2.2
 have hq:=hb.2.2.2
 have hl:=hp.max
 rw [zHK]
 refine zdm (fun A W=>by simp) Tryz.func124 rfl rfl (by simp) fun W0=>?_
 refine Wk ?_
 refine zc9 rfl (fun hc=>?_) (fun hc=>?_)
 ·refine Wk ?_
  refine zjE fun e=>?_
  simp [e.1,e.2.1,e.2.2.1,e.2.2.2] at hc
 simp only [yqg,bne_eq_false_iff_eq] at hc
 have hlen:a.pas.l.length=b.pas.l.length:=by have:=hc.2;omega
 refine Wk ?_
 refine zdd (ι:=Nat) (fun k=>⟨[(3,true,.c (.p 1 0)),(36,true,.c (.v a.pas.val)),(37,true,.c (.v (.int .i64 a.pas.l.length))),(38,true,.c (.v (.int .i64 k)))],[(1,.box 84 [.v (.int .i64 b.start),.v (.int .i64 b.arr),.v (.int .i64 b.cost),.v b.pas.val])],h,2⟩) (fun k=>k≤a.pas.l.length∧a.pas.l.take k=b.pas.l.take k) (fun k=>a.pas.l.length - k) 0 ⟨Nat.zero_le _,rfl⟩ ?_ ?_
 ·refine Evs ?_
  rfl
 intro k hk
 refine Wk ?_
 refine zc9 rfl (fun hd=>?_) (fun hd=>?_)
 ·have hlt:=zjG hd
  have hlt':k < b.pas.l.length:=by omega
  repeat' first|refine zid rfl ?_|refine zc4 rfl ?_|refine zc7 ?_|refine zc8 ?_|refine zc5 ?_|refine zc6 ?_|(simp (maxSteps:=2000000) only [go_sem,yqa,yqb,yqc,yqd,yqe,yqf,zkS hp hlt,hp.some hlt,hlt];try rfl)|refine zc3 ?_|(refine And.intro ?_ ?_;focus (intros;simp_all only [yqg,yqh,yqi,and_self,true_and,and_true];done))
  refine zi7 rfl (by kernel_rfl) ?_
  simp (maxSteps:=2000000) only [go_sem,yqa,yqb,yqc,yqd,yqe,yqf,zkS hp hlt,hp.some hlt,zkS hq hlt',hq.some hlt',hlt,hlt',zHG,String.reduceEq,not_false_eq_true,and_self,true_and]
  refine zc9 rfl (fun he=>?_) (fun he=>?_)
  ·refine Wk ?_
   refine zjE fun e=>?_
   rw [zHH] at he
   exact of_decide_eq_false (by simpa using he) (by simp only [e.2.2.2])
  ·refine Wk ?_
   rw [zHH] at he
   exact ⟨k+1,⟨hlt,zjB hlt hlt' hk.2 (of_decide_eq_true (by simpa using he))⟩,by omega,zjA (zjz hlt (by omega))⟩
 ·have hge:=zjH hd
  refine Wk ?_
  refine zjF ⟨hc.1.1.1,hc.1.1.2,hc.1.2,?_⟩
  have:=hk.2
  rwa [List.take_of_length_le hge,List.take_of_length_le (by omega)] at this
end Go.Proofs.YtbkaaakphpbmiaaGreat
namespace Go.Proofs.YtbkaaakphpbmiaaGreat
open Go Go.SL
set_option maxHeartbeats 1000000
theorem w64 (n:Int):IntKind.i64.wrap n=(n+9223372036854775808) % 18446744073709551616 - 9223372036854775808:=by rw [IntKind.wrap_i64]
def zIX (l:List POption):Int:=l.foldl (fun t o=>IntKind.i64.wrap (t+o.cost)) 0
theorem zIY (s:Sl DOption):zIX (Con.con s)=s.l.foldl (fun t o=>IntKind.i64.wrap (t+o.cost)) 0:=by rw [zkw,zIX,List.foldl_map];rfl
theorem zIZ {α β:Type} (f:β→α→β) (b:β) {l:List α} {k:Nat} (hk:k < l.length):(l.take (k+1)).foldl f b=f ((l.take k).foldl f b) l[k]:=by
 rw [List.take_succ_eq_append_getElem hk,List.foldl_append];rfl
theorem zUx (a:Sl DOption) (h:Hp) (ha:a.Ok h):Ct Tryz.prog 131 [a.val] h fun v h'=>v=.int .i64 (zIX (Con.con a))∧h'=h:=by
 have hl:=ha.max
 rw [zIY]
 refine zdm (fun A W=>by simp) Tryz.func131 rfl rfl (by simp) fun W0=>?_
 refine Wk ?_
 refine zdd (ι:=Nat) (fun k=>⟨[(3,true,.c (.v (.int .i64 ((a.l.take k).foldl (fun t o=>IntKind.i64.wrap (t+o.cost)) 0)))),(6,true,.c (.v a.val)),(7,true,.c (.v (.int .i64 a.l.length))),(8,true,.c (.v (.int .i64 k)))],[],h,0⟩) (fun k=>k≤a.l.length) (fun k=>a.l.length - k) 0 (Nat.zero_le _) ?_ ?_
 ·refine Evs ?_
  exact ⟨rfl,rfl⟩
 intro k hk
 refine Wk ?_
 refine zc9 rfl (fun hd=>?_) (fun hd=>?_)
 ·have hlt:=zjG hd
  repeat' first|refine zid rfl ?_|refine zc4 rfl ?_|refine zc7 ?_|refine zc8 ?_|refine zc5 ?_|refine zc6 ?_|(simp (maxSteps:=2000000) only [go_sem,yqa,yqb,yqc,yqd,yqe,yqf,zkW ha hlt,ha.some hlt,hlt,yqj];try rfl)|refine zc3 ?_|(refine And.intro ?_ ?_;focus (intros;simp_all only [yqg,yqh,yqi,and_self,true_and,and_true];done))
  exact ⟨k+1,hlt,by omega,zjA (by rw [zIZ _ _ hlt]),zjA (zjz hlt (by omega))⟩
 ·have hge:=zjH hd
  refine Wk ?_
  rw [List.take_of_length_le hge]
theorem zI0 (a:Sl DOption) (h:Hp) (ha:a.Ok h):Ct Tryz.prog 132 [a.val] h fun v h'=>v=.int .i64 (zIX (Con.con a))∧h'=h:=by
 have hl:=ha.max
 rw [zIY]
 refine zdm (fun A W=>by simp) Tryz.func132 rfl rfl (by simp) fun W0=>?_
 refine Wk ?_
 refine zdd (ι:=Nat) (fun k=>⟨[(3,true,.c (.v (.int .i64 ((a.l.take k).foldl (fun t o=>IntKind.i64.wrap (t+o.cost)) 0)))),(6,true,.c (.v a.val)),(7,true,.c (.v (.int .i64 a.l.length))),(8,true,.c (.v (.int .i64 k)))],[],h,0⟩) (fun k=>k≤a.l.length) (fun k=>a.l.length - k) 0 (Nat.zero_le _) ?_ ?_
 ·refine Evs ?_
  exact ⟨rfl,rfl⟩
 intro k hk
 refine Wk ?_
 refine zc9 rfl (fun hd=>?_) (fun hd=>?_)
 ·have hlt:=zjG hd
  repeat' first|refine zid rfl ?_|refine zc4 rfl ?_|refine zc7 ?_|refine zc8 ?_|refine zc5 ?_|refine zc6 ?_|(simp (maxSteps:=2000000) only [go_sem,yqa,yqb,yqc,yqd,yqe,yqf,zkW ha hlt,ha.some hlt,hlt,yqj];try rfl)|refine zc3 ?_|(refine And.intro ?_ ?_;focus (intros;simp_all only [yqg,yqh,yqi,and_self,true_and,and_true];done))
  exact ⟨k+1,hlt,by omega,zjA (by rw [zIZ _ _ hlt]),zjA (zjz hlt (by omega))⟩
 ·have hge:=zjH hd
  refine Wk ?_
  rw [List.take_of_length_le hge]
def zyi (l:List Int):Nat→Int
 | 0=>-1
 | k+1=>if zyi l k < 0∨l.getD k 0 < l.getD (zyi l k).toNat 0 then k else zyi l k
theorem zyj (l:List Int):∀ k,(k=0∧zyi l k=-1)∨(0≤zyi l k∧zyi l k < k)
 | 0=>.inl ⟨rfl,rfl⟩
 | k+1=>by
  right
  simp only [zyi]
  rcases zyj l k with ⟨rfl,h⟩|h
  ·rw [h];simp
  ·split <;> omega
def zyk (l:List POption):Int:=zyi (l.map (·.cost)) l.length
theorem zyl (s:Sl DOption):zyk (Con.con s)=zyi (s.l.map (·.cost)) s.l.length:=by rw [zkw,zyk,List.map_map,List.length_map];rfl
theorem zym {l:List DOption} {k:Nat} (hk:k < l.length):(l.map (·.cost)).getD k 0=l[k].cost:=by simp [List.getD_eq_getElem?_getD,hk]
theorem zyn (a:Sl DOption) (h:Hp) (ha:a.Ok h):Ct Tryz.prog 182 [a.val] h fun v h'=>v=.int .i64 (zyk (Con.con a))∧h'=h:=by
 have hl:=ha.max
 rw [zyl]
 refine zdm (fun A W=>by simp) Tryz.func182 rfl rfl (by simp) fun W0=>?_
 refine Wk ?_
 refine zdd (ι:=Nat) (fun k=>⟨[(0,true,.c (.v a.val)),(3,true,.c (.v (.int .i64 (zyi (a.l.map (·.cost)) k)))),(6,true,.c (.v a.val)),(7,true,.c (.v (.int .i64 a.l.length))),(8,true,.c (.v (.int .i64 k)))],[],h,0⟩) (fun k=>k≤a.l.length) (fun k=>a.l.length - k) 0 (Nat.zero_le _) ?_ ?_
 ·refine Evs ?_
  exact ⟨rfl,rfl⟩
 intro k hk
 refine Wk ?_
 refine zc9 rfl (fun hd=>?_) (fun hd=>?_)
 ·have hlt:=zjG hd
  repeat' first|refine zid rfl ?_|refine zc4 rfl ?_|refine zc7 ?_|refine zc8 ?_|refine zc5 ?_|refine zc6 ?_|(simp (maxSteps:=2000000) only [go_sem,yqa,yqb,yqc,yqd,yqe,yqf,zkW ha hlt,ha.some hlt,hlt,yqj];try rfl)|refine zc3 ?_|(refine And.intro ?_ ?_;focus (intros;simp_all only [yqg,yqh,yqi,and_self,true_and,and_true];done))
  have hstep:zyi (a.l.map (·.cost)) (k+1)=if zyi (a.l.map (·.cost)) k < 0∨(a.l.map (·.cost)).getD k 0 < (a.l.map (·.cost)).getD (zyi (a.l.map (·.cost)) k).toNat 0 then (k:Int) else zyi (a.l.map (·.cost)) k:=rfl
  rcases zyj (a.l.map (·.cost)) k with ⟨h0,hB⟩|⟨h0,hB⟩
  ·rw [hB] at hstep ⊢
   refine zi7 rfl (by kernel_rfl) ?_
   simp (maxSteps:=2000000) only [go_sem,yqa,yqb,yqc,yqd,yqe,yqf,Int.reduceNeg,Int.reduceLT,decide_true,Bool.not_true,Bool.false_eq_true,reduceCtorEq,false_implies,Bool.true_or]
   refine zc9 rfl (fun hq=>?_) (fun hq=>?_)
   ·refine Wk ?_
    exact ⟨k+1,hlt,by omega,zjA (by rw [hstep];simp),zjA (zjz hlt (by omega))⟩
   ·cases hq
  ·have hb:(zyi (a.l.map (·.cost)) k).toNat < a.l.length:=by omega
   have hnn:decide (zyi (a.l.map (·.cost)) k < 0)=false:=decide_eq_false (by omega)
   rw [zym hlt,zym hb] at hstep
   generalize zyi (a.l.map (·.cost)) k=B at *
   refine zi7 rfl (by kernel_rfl) ?_
   simp (maxSteps:=2000000) only [go_sem,yqa,yqb,yqc,yqd,yqe,yqf,hnn,h0,hb,zmV ha hb,ha.some hb,Bool.not_false,Bool.false_or]
   refine ⟨fun _=>by omega,?_⟩
   refine zc9 rfl (fun hq=>?_) (fun hq=>?_)
   ·refine Wk ?_
    exact ⟨k+1,hlt,by omega,zjA (by rw [hstep,if_pos (((yqh _ _).mp hq).elim (fun e=>.inl (of_decide_eq_true e)) (fun e=>.inr (of_decide_eq_true e)))]),zjA (zjz hlt (by omega))⟩
   ·refine Wk ?_
    exact ⟨k+1,hlt,by omega,zjA (by rw [hstep,if_neg (fun e=>e.elim (by omega) (of_decide_eq_false (Bool.or_eq_false_iff.1 hq).2))]),zjA (zjz hlt (by omega))⟩
 ·have hge:=zjH hd
  refine Wk ?_
  rw [Nat.le_antisymm hk hge]
theorem zyo (a:Sl DOption) (h:Hp) (ha:a.Ok h):Ct Tryz.prog 183 [a.val] h fun v h'=>v=.int .i64 (zyk (Con.con a))∧h'=h:=by
 have hl:=ha.max
 rw [zyl]
 refine zdm (fun A W=>by simp) Tryz.func183 rfl rfl (by simp) fun W0=>?_
 refine Wk ?_
 refine zdd (ι:=Nat) (fun k=>⟨[(0,true,.c (.v a.val)),(3,true,.c (.v (.int .i64 (zyi (a.l.map (·.cost)) k)))),(6,true,.c (.v a.val)),(7,true,.c (.v (.int .i64 a.l.length))),(8,true,.c (.v (.int .i64 k)))],[],h,0⟩) (fun k=>k≤a.l.length) (fun k=>a.l.length - k) 0 (Nat.zero_le _) ?_ ?_
 ·refine Evs ?_
  exact ⟨rfl,rfl⟩
 intro k hk
 refine Wk ?_
 refine zc9 rfl (fun hd=>?_) (fun hd=>?_)
 ·have hlt:=zjG hd
  repeat' first|refine zid rfl ?_|refine zc4 rfl ?_|refine zc7 ?_|refine zc8 ?_|refine zc5 ?_|refine zc6 ?_|(simp (maxSteps:=2000000) only [go_sem,yqa,yqb,yqc,yqd,yqe,yqf,zkW ha hlt,ha.some hlt,hlt,yqj];try rfl)|refine zc3 ?_|(refine And.intro ?_ ?_;focus (intros;simp_all only [yqg,yqh,yqi,and_self,true_and,and_true];done))
  have hstep:zyi (a.l.map (·.cost)) (k+1)=if zyi (a.l.map (·.cost)) k < 0∨(a.l.map (·.cost)).getD k 0 < (a.l.map (·.cost)).getD (zyi (a.l.map (·.cost)) k).toNat 0 then (k:Int) else zyi (a.l.map (·.cost)) k:=rfl
  rcases zyj (a.l.map (·.cost)) k with ⟨h0,hB⟩|⟨h0,hB⟩
  ·rw [hB] at hstep ⊢
   refine zi7 rfl (by kernel_rfl) ?_
   simp (maxSteps:=2000000) only [go_sem,yqa,yqb,yqc,yqd,yqe,yqf,Int.reduceNeg,Int.reduceLT,decide_true,Bool.not_true,Bool.false_eq_true,reduceCtorEq,false_implies,Bool.true_or]
   refine zc9 rfl (fun hq=>?_) (fun hq=>?_)
   ·refine Wk ?_
    exact ⟨k+1,hlt,by omega,zjA (by rw [hstep];simp),zjA (zjz hlt (by omega))⟩
   ·cases hq
  ·have hb:(zyi (a.l.map (·.cost)) k).toNat < a.l.length:=by omega
   have hnn:decide (zyi (a.l.map (·.cost)) k < 0)=false:=decide_eq_false (by omega)
   rw [zym hlt,zym hb] at hstep
   generalize zyi (a.l.map (·.cost)) k=B at *
   refine zi7 rfl (by kernel_rfl) ?_
   simp (maxSteps:=2000000) only [go_sem,yqa,yqb,yqc,yqd,yqe,yqf,hnn,h0,hb,zmV ha hb,ha.some hb,Bool.not_false,Bool.false_or]
   refine ⟨fun _=>by omega,?_⟩
   refine zc9 rfl (fun hq=>?_) (fun hq=>?_)
   ·refine Wk ?_
    exact ⟨k+1,hlt,by omega,zjA (by rw [hstep,if_pos (((yqh _ _).mp hq).elim (fun e=>.inl (of_decide_eq_true e)) (fun e=>.inr (of_decide_eq_true e)))]),zjA (zjz hlt (by omega))⟩
   ·refine Wk ?_
    exact ⟨k+1,hlt,by omega,zjA (by rw [hstep,if_neg (fun e=>e.elim (by omega) (of_decide_eq_false (Bool.or_eq_false_iff.1 hq).2))]),zjA (zjz hlt (by omega))⟩
 ·have hge:=zjH hd
  refine Wk ?_
  rw [Nat.le_antisymm hk hge]
end Go.Proofs.YtbkaaakphpbmiaaGreat
namespace Go.Proofs.YtbkaaakphpbmiaaGreat
open Go Go.SL
set_option maxHeartbeats 1000000
def In (n lo hi:Int):Bool:=decide (lo≤n) && decide (n≤hi)
def zyp (n:Int):Bool:=In n 4 2880 && (Int.tmod n 4 == 0)
theorem zyq (n:Int) (h:Hp):Ct Tryz.prog 290 [.int .i64 n] h fun v h'=>v=.bool (zyp n)∧h'=h:=by
 refine zdm (fun A W=>by simp) Tryz.func290 rfl rfl (by simp) fun W0=>?_
 repeat' first|refine zid rfl ?_|refine zc4 rfl ?_|refine zc7 ?_|refine zc8 ?_|refine zc5 ?_|refine zc6 ?_|refine zhE (fun _=>zyf _ _ _ _) ?_|(simp (maxSteps:=2000000) only [go_sem,yqa,yqb,yqc,yqd,yqe,yqf];try rfl)|refine zc3 ?_|(refine And.intro ?_ ?_;focus (intros;simp_all only [yqg,yqh,yqi,and_self,true_and,and_true];done))
 refine ⟨fun _ _=>by decide,?_⟩
 exact Wk0
def zyr (p:DPart):Bool:=In p.amp 0 1000 && zyp p.period && In p.phase 0 (p.period - 1)
theorem zys (p:DPart) (h:Hp) (hp:Enc.ok h p):Ct Tryz.prog 276 [p.v] h fun v h'=>v=.bool (zyr p)∧h'=h:=by
 have hw:=w64 (p.period - 1)
 refine zdm (fun A W=>by simp) Tryz.func276 rfl rfl (by simp) fun W0=>?_
 repeat' first|refine zid rfl ?_|refine zc4 rfl ?_|refine zc7 ?_|refine zc8 ?_|refine zc5 ?_|refine zc6 ?_|refine zhE (fun _=>zye _ _ _ _) ?_|(simp (maxSteps:=2000000) only [go_sem,yqa,yqb,yqc,yqd,yqe,yqf];try rfl)|refine zc3 ?_|(refine And.intro ?_ ?_;focus (intros;simp_all only [yqg,yqh,yqi,and_self,true_and,and_true];done))
 refine ⟨fun _ _ _ _=>by decide,?_⟩
 repeat' first|refine zid rfl ?_|refine zc4 rfl ?_|refine zc7 ?_|refine zc8 ?_|refine zc5 ?_|refine zc6 ?_|refine zhE (fun _=>zye _ _ _ _) ?_|(simp (maxSteps:=2000000) only [go_sem,yqa,yqb,yqc,yqd,yqe,yqf];try rfl)|refine zc3 ?_|(refine And.intro ?_ ?_;focus (intros;simp_all only [yqg,yqh,yqi,and_self,true_and,and_true];done))
 congr 1;rw [Bool.eq_iff_iff];simp only [zyr,zyp,In,yqi,yqh,Bool.not_eq_true',decide_eq_true_eq,decide_eq_false_iff_not,beq_iff_eq,and_assoc]
 rw [hw]
 constructor <;> intro h <;> omega
theorem zyt (p:DPart) (h:Hp) (hp:Enc.ok h p):Ct Tryz.prog 266 [p.v] h fun v h'=>v=.bool (zyr p)∧h'=h:=by
 have hw:=w64 (p.period - 1)
 refine zdm (fun A W=>by simp) Tryz.func266 rfl rfl (by simp) fun W0=>?_
 repeat' first|refine zid rfl ?_|refine zc4 rfl ?_|refine zc7 ?_|refine zc8 ?_|refine zc5 ?_|refine zc6 ?_|refine zhE (fun _=>zyf _ _ _ _) ?_|refine zhE (fun _=>zyq _ _) ?_|(simp (maxSteps:=2000000) only [go_sem,yqa,yqb,yqc,yqd,yqe,yqf];try rfl)|refine zc3 ?_|(refine And.intro ?_ ?_;focus (intros;simp_all only [yqg,yqh,yqi,and_self,true_and,and_true];done))
 congr 1;rw [Bool.eq_iff_iff];simp only [zyr,zyp,In,yqi,yqh,Bool.not_eq_true',decide_eq_true_eq,decide_eq_false_iff_not,beq_iff_eq,and_assoc]
 rw [hw]
 constructor <;> intro h <;> omega
def zyu (s:DSurge):Bool:=In s.src 0 2880 && In s.low (-500) 500 && In s.high s.low 500
theorem zyv (p:DSurge) (h:Hp):Ct Tryz.prog 239 [p.v] h fun v h'=>v=.bool (zyu p)∧h'=h:=by
 refine zdm (fun A W=>by simp) Tryz.func239 rfl rfl (by simp) fun W0=>?_
 repeat' first|refine zid rfl ?_|refine zc4 rfl ?_|refine zc7 ?_|refine zc8 ?_|refine zc5 ?_|refine zc6 ?_|refine zhE (fun _=>zye _ _ _ _) ?_|(simp (maxSteps:=2000000) only [go_sem,yqa,yqb,yqc,yqd,yqe,yqf];try rfl)|refine zc3 ?_|(refine And.intro ?_ ?_;focus (intros;simp_all only [yqg,yqh,yqi,and_self,true_and,and_true];done))
theorem zyw (p:DSurge) (h:Hp):Ct Tryz.prog 221 [p.v] h fun v h'=>v=.bool (zyu p)∧h'=h:=by
 refine zdm (fun A W=>by simp) Tryz.func221 rfl rfl (by simp) fun W0=>?_
 repeat' first|refine zid rfl ?_|refine zc4 rfl ?_|refine zc7 ?_|refine zc8 ?_|refine zc5 ?_|refine zc6 ?_|refine zhE (fun _=>zyg _ _) ?_|(simp (maxSteps:=2000000) only [go_sem,yqa,yqb,yqc,yqd,yqe,yqf];try rfl)|refine zc3 ?_|(refine And.intro ?_ ?_;focus (intros;simp_all only [yqg,yqh,yqi,and_self,true_and,and_true];done))
 congr 1;rw [Bool.eq_iff_iff];simp only [zyu,In,yqi,yqh,Bool.not_eq_true',decide_eq_true_eq,decide_eq_false_iff_not,beq_iff_eq,and_assoc]
 omega
def zyx (s:ByteArray) (k:Nat):Bool:=!(decide (97≤zny s k) && decide (zny s k≤122)) && (decide ((k:Int)=0) || decide (zny s k < 48) || decide (57 < zny s k))
def zyy (s:ByteArray):Bool:=decide (∀ i,i < s.size→zyx s i=false) && In s.size 1 8
theorem zyz (s:ByteArray) (h:Hp) (hs:zky s):Ct Tryz.prog 240 [.string s] h fun v h'=>v=.bool (zyy s)∧h'=h:=by
 have hmax:s.size≤9223372036854775807:=hs
 refine zdm (fun A W=>by simp) Tryz.func240 rfl rfl (by simp) fun W0=>?_
 refine Wk ?_
 refine zdd (ι:=Nat) (fun k=>⟨[(0,true,.c (.v (.string s))),(3,true,.c (.v (.int .i64 k)))],[],h,0⟩) (fun k=>k≤s.size∧∀ i,i < k→zyx s i=false) (fun k=>s.size - k) 0 ⟨Nat.zero_le _,fun i hi=>absurd hi (Nat.not_lt_zero _)⟩ ?_ ?_
 ·refine Evs ?_
  first|exact rfl|exact ⟨rfl,rfl⟩|exact ⟨rfl,rfl,rfl⟩|exact ⟨rfl,rfl,rfl,rfl⟩|exact ⟨rfl,rfl,rfl,rfl,rfl⟩
 intro k hk
 refine Wk ?_
 refine zc9 rfl (fun hd=>?_) (fun hd=>?_)
 ·have hlt:=zjG hd
  repeat' first|refine zid rfl ?_|refine zc4 rfl ?_|refine zc7 ?_|refine zc8 ?_|refine zc5 ?_|refine zc6 ?_|(simp (maxSteps:=2000000) only [go_sem,yqa,yqb,yqc,yqd,yqe,yqf,hlt,yqj];try rfl)|refine zc3 ?_|(refine And.intro ?_ ?_;focus (intros;simp_all only [yqg,yqh,yqi,and_self,true_and,and_true];done))
  refine zc9 rfl (fun hq=>?_) (fun hq=>?_)
  ·refine Wk ?_
   have:zyy s=false:=by
    rw [zyy,decide_eq_false (fun e=>?_),Bool.false_and]
    have:=e k hlt
    rw [show zyx s k=true from hq] at this
    cases this
   rw [this]
  ·refine Wk ?_
   refine ⟨k+1,⟨hlt,fun i hi=>?_⟩,by omega,zjA (zjz hlt (by omega))⟩
   rcases Nat.lt_succ_iff_lt_or_eq.1 hi with hi|rfl
   ·exact hk.2 i hi
   ·exact hq
 ·have hge:=zjH hd
  repeat' first|refine zid rfl ?_|refine zc4 rfl ?_|refine zc7 ?_|refine zc8 ?_|refine zc5 ?_|refine zc6 ?_|refine zhE (fun _=>zye _ _ _ _) ?_|(simp (maxSteps:=2000000) only [go_sem,yqa,yqb,yqc,yqd,yqe,yqf];try rfl)|refine zc3 ?_|(refine And.intro ?_ ?_;focus (intros;simp_all only [yqg,yqh,yqi,and_self,true_and,and_true];done))
  have:decide (∀ i,i < s.size→zyx s i=false)=true:=decide_eq_true (fun i hi=>hk.2 i (by omega))
  rw [zyy,this,Bool.true_and,In]
theorem zyA (s:ByteArray) (h:Hp) (hs:zky s):Ct Tryz.prog 253 [.string s] h fun v h'=>v=.bool (zyy s)∧h'=h:=by
 have hmax:s.size≤9223372036854775807:=hs
 refine zdm (fun A W=>by simp) Tryz.func253 rfl rfl (by simp) fun W0=>?_
 repeat' first|refine zid rfl ?_|refine zc4 rfl ?_|refine zc7 ?_|refine zc8 ?_|refine zc5 ?_|refine zc6 ?_|refine zhE (fun _=>zyf _ _ _ _) ?_|(simp (maxSteps:=2000000) only [go_sem,yqa,yqb,yqc,yqd,yqe,yqf];try rfl)|refine zc3 ?_|(refine And.intro ?_ ?_;focus (intros;simp_all only [yqg,yqh,yqi,and_self,true_and,and_true];done))
 refine zc9 rfl (fun hc=>?_) (fun hc=>?_)
 ·refine Wk ?_
  rw [Bool.not_eq_true'] at hc
  rw [zyy,In,hc,Bool.and_false]
 rw [Bool.not_eq_false'] at hc
 refine Wk ?_
 refine zdd (ι:=Nat) (fun k=>⟨[(0,true,.c (.v (.string s))),(3,true,.c (.v (.int .i64 k)))],[],h,0⟩) (fun k=>k≤s.size∧∀ i,i < k→zyx s i=false) (fun k=>s.size - k) 0 ⟨Nat.zero_le _,fun i hi=>absurd hi (Nat.not_lt_zero _)⟩ ?_ ?_
 ·refine Evs ?_
  first|exact rfl|exact ⟨rfl,rfl⟩|exact ⟨rfl,rfl,rfl⟩|exact ⟨rfl,rfl,rfl,rfl⟩|exact ⟨rfl,rfl,rfl,rfl,rfl⟩
 intro k hk
 refine Wk ?_
 refine zc9 rfl (fun hd=>?_) (fun hd=>?_)
 ·have hlt:=zjG hd
  repeat' first|refine zid rfl ?_|refine zc4 rfl ?_|refine zc7 ?_|refine zc8 ?_|refine zc5 ?_|refine zc6 ?_|(simp (maxSteps:=2000000) only [go_sem,yqa,yqb,yqc,yqd,yqe,yqf,hlt,yqj];try rfl)|refine zc3 ?_|(refine And.intro ?_ ?_;focus (intros;simp_all only [yqg,yqh,yqi,and_self,true_and,and_true];done))
  refine zc9 rfl (fun hq=>?_) (fun hq=>?_)
  ·refine Wk ?_
   have:zyy s=false:=by
    rw [zyy,decide_eq_false (fun e=>?_),Bool.false_and]
    have:=e k hlt
    rw [show zyx s k=true from hq] at this
    cases this
   rw [this]
  ·refine Wk ?_
   refine ⟨k+1,⟨hlt,fun i hi=>?_⟩,by omega,zjA (zjz hlt (by omega))⟩
   rcases Nat.lt_succ_iff_lt_or_eq.1 hi with hi|rfl
   ·exact hk.2 i hi
   ·exact hq
 ·have hge:=zjH hd
  refine Wk ?_
  have:decide (∀ i,i < s.size→zyx s i=false)=true:=decide_eq_true (fun i hi=>hk.2 i (by omega))
  rw [zyy,this,Bool.true_and,In,hc]
def zyB {α:Type} (p:α→Bool) (l:List α):Int:=match l.findIdx? p with|some i=>i|none=>-1
theorem zyC {α:Type} {p:α→Bool} {l:List α} {k:Nat} (hk:k < l.length) (h:p l[k]=true) (hp:∀ i (hi:i < l.length),i < k→p l[i]=false):zyB p l=k:=by
 have:l.findIdx? p=some k:=by
  rw [List.findIdx?_eq_some_iff_getElem]
  exact ⟨hk,h,fun j hj=>by rw [hp j (by omega) hj];exact Bool.false_ne_true⟩
 rw [zyB,this]
theorem zyD {α:Type} {p:α→Bool} {l:List α} (hp:∀ i (hi:i < l.length),p l[i]=false):zyB p l=-1:=by
 have:l.findIdx? p=none:=by
  rw [List.findIdx?_eq_none_iff]
  intro x hx
  obtain ⟨i,hi,rfl⟩:=List.getElem_of_mem hx
  exact hp i hi
 rw [zyB,this]
end Go.Proofs.YtbkaaakphpbmiaaGreat
namespace Go.Proofs.YtbkaaakphpbmiaaGreat
open Go Go.SL
set_option maxHeartbeats 1000000
def zyE (t:PTide):Bool:=In t.mean (-1000) 1000 && decide (t.parts.length≤4) && t.parts.all zyr
theorem zyF (s:Sl DPart):Con.con s=s.l:=List.map_id _
theorem zyG {α:Type} {p:α→Bool} {l:List α} {k:Nat} (hk:k < l.length) (h:p l[k]=false):l.all p=false:=List.all_eq_false.2 ⟨l[k],List.getElem_mem hk,by rw [h];exact Bool.false_ne_true⟩
theorem zyH {α:Type} {p:α→Bool} {l:List α} {k:Nat} (hk:k < l.length) (hp:(l.take k).all p=true) (h:p l[k]=true):(l.take (k+1)).all p=true:=by
 rw [List.take_succ_eq_append_getElem hk,List.all_append,hp];simp [h]
theorem zyI (t:DTide) (h:Hp) (ht:Enc.ok h t):Ct Tryz.prog 238 [t.v] h fun v h'=>v=.bool (zyE (Con.con t))∧h'=h:=by
 have hp:=ht.2
 have hl:=hp.max
 rw [zyE,show (Con.con t).mean=t.mean from rfl,show (Con.con t).parts=t.parts.l from zyF _]
 refine zdm (fun A W=>by simp) Tryz.func238 rfl rfl (by simp) fun W0=>?_
 repeat' first|refine zid rfl ?_|refine zc4 rfl ?_|refine zc7 ?_|refine zc8 ?_|refine zc5 ?_|refine zc6 ?_|refine zhE (fun _=>zye _ _ _ _) ?_|(simp (maxSteps:=2000000) only [go_sem,yqa,yqb,yqc,yqd,yqe,yqf];try rfl)|refine zc3 ?_|(refine And.intro ?_ ?_;focus (intros;simp_all only [yqg,yqh,yqi,and_self,true_and,and_true];done))
 refine zc9 rfl (fun hc=>?_) (fun hc=>?_)
 ·refine Wk ?_
  congr 1
  rw [yqh] at hc
  rcases hc with hc|hc
  ·rw [Bool.not_eq_true'] at hc
   rw [In,hc];rfl
  ·rw [decide_eq_false (by have:=of_decide_eq_true hc;omega),Bool.and_false,Bool.false_and]
 obtain ⟨hc1,hc2⟩:=Bool.or_eq_false_iff.1 hc
 rw [Bool.not_eq_false'] at hc1
 have hc2:=of_decide_eq_false hc2
 refine Wk ?_
 refine zdd (ι:=Nat) (fun k=>⟨[(16,true,.c (.v t.parts.val)),(17,true,.c (.v (.int .i64 t.parts.l.length))),(18,true,.c (.v (.int .i64 k)))],[],h,0⟩) (fun k=>k≤t.parts.l.length∧(t.parts.l.take k).all zyr=true) (fun k=>t.parts.l.length - k) 0 ⟨Nat.zero_le _,rfl⟩ ?_ ?_
 ·refine Evs ?_
  first|exact rfl|exact ⟨rfl,rfl⟩|exact ⟨rfl,rfl,rfl⟩|exact ⟨rfl,rfl,rfl,rfl⟩|exact ⟨rfl,rfl,rfl,rfl,rfl⟩
 intro k hk
 refine Wk ?_
 refine zc9 rfl (fun hd=>?_) (fun hd=>?_)
 ·have hlt:=zjG hd
  repeat' first|refine zid rfl ?_|refine zc4 rfl ?_|refine zc7 ?_|refine zc8 ?_|refine zc5 ?_|refine zc6 ?_|refine zhE (fun _=>zys _ _ (hp.el hlt)) ?_|(simp (maxSteps:=2000000) only [go_sem,yqa,yqb,yqc,yqd,yqe,yqf,zk1 hp hlt,hp.some hlt,hlt,yqj];try rfl)|refine zc3 ?_|(refine And.intro ?_ ?_;focus (intros;simp_all only [yqg,yqh,yqi,and_self,true_and,and_true];done))
  refine zc9 rfl (fun hq=>?_) (fun hq=>?_)
  ·rw [Bool.not_eq_true'] at hq
   refine Wk ?_
   rw [zyG hlt hq,Bool.and_false]
  ·rw [Bool.not_eq_false'] at hq
   refine Wk ?_
   exact ⟨k+1,⟨hlt,zyH hlt hk.2 hq⟩,by omega,zjA (zjz hlt (by omega))⟩
 ·have hge:=zjH hd
  refine Wk ?_
  have:=hk.2
  rw [List.take_of_length_le hge] at this
  rw [this,In,hc1,decide_eq_true (show t.parts.l.length≤4 by omega)];rfl
theorem zyJ (t:DTide) (h:Hp) (ht:Enc.ok h t):Ct Tryz.prog 220 [t.v] h fun v h'=>v=.bool (zyE (Con.con t))∧h'=h:=by
 have hp:=ht.2
 have hl:=hp.max
 rw [zyE,show (Con.con t).mean=t.mean from rfl,show (Con.con t).parts=t.parts.l from zyF _]
 refine zdm (fun A W=>by simp) Tryz.func220 rfl rfl (by simp) fun W0=>?_
 repeat' first|refine zid rfl ?_|refine zc4 rfl ?_|refine zc7 ?_|refine zc8 ?_|refine zc5 ?_|refine zc6 ?_|refine zhE (fun _=>zyf _ _ _ _) ?_|(simp (maxSteps:=2000000) only [go_sem,yqa,yqb,yqc,yqd,yqe,yqf];try rfl)|refine zc3 ?_|(refine And.intro ?_ ?_;focus (intros;simp_all only [yqg,yqh,yqi,and_self,true_and,and_true];done))
 refine zc9 rfl (fun hc=>?_) (fun hc=>?_)
 ·refine Wk ?_
  congr 1
  rw [yqh] at hc
  rcases hc with hc|hc
  ·rw [Bool.not_eq_true'] at hc
   rw [In,hc];rfl
  ·rw [decide_eq_false (by have:=of_decide_eq_true hc;omega),Bool.and_false,Bool.false_and]
 obtain ⟨hc1,hc2⟩:=Bool.or_eq_false_iff.1 hc
 rw [Bool.not_eq_false'] at hc1
 have hc2:=of_decide_eq_false hc2
 refine Wk ?_
 refine zdd (ι:=Nat) (fun k=>⟨[(16,true,.c (.v t.parts.val)),(17,true,.c (.v (.int .i64 t.parts.l.length))),(18,true,.c (.v (.int .i64 k)))],[],h,0⟩) (fun k=>k≤t.parts.l.length∧(t.parts.l.take k).all zyr=true) (fun k=>t.parts.l.length - k) 0 ⟨Nat.zero_le _,rfl⟩ ?_ ?_
 ·refine Evs ?_
  first|exact rfl|exact ⟨rfl,rfl⟩|exact ⟨rfl,rfl,rfl⟩|exact ⟨rfl,rfl,rfl,rfl⟩|exact ⟨rfl,rfl,rfl,rfl,rfl⟩
 intro k hk
 refine Wk ?_
 refine zc9 rfl (fun hd=>?_) (fun hd=>?_)
 ·have hlt:=zjG hd
  repeat' first|refine zid rfl ?_|refine zc4 rfl ?_|refine zc7 ?_|refine zc8 ?_|refine zc5 ?_|refine zc6 ?_|refine zhE (fun _=>zyt _ _ (hp.el hlt)) ?_|(simp (maxSteps:=2000000) only [go_sem,yqa,yqb,yqc,yqd,yqe,yqf,zk1 hp hlt,hp.some hlt,hlt,yqj];try rfl)|refine zc3 ?_|(refine And.intro ?_ ?_;focus (intros;simp_all only [yqg,yqh,yqi,and_self,true_and,and_true];done))
  refine zc9 rfl (fun hq=>?_) (fun hq=>?_)
  ·rw [Bool.not_eq_true'] at hq
   refine Wk ?_
   rw [zyG hlt hq,Bool.and_false]
  ·rw [Bool.not_eq_false'] at hq
   refine Wk ?_
   exact ⟨k+1,⟨hlt,zyH hlt hk.2 hq⟩,by omega,zjA (zjz hlt (by omega))⟩
 ·have hge:=zjH hd
  refine Wk ?_
  have:=hk.2
  rw [List.take_of_length_le hge] at this
  rw [this,In,hc1,decide_eq_true (show t.parts.l.length≤4 by omega)];rfl
def dS:DSurge:=⟨0,0,0⟩
def zyK (l:List DSurge) (i:Nat):Bool:=zyu (l.getD i dS) && !(decide (0 < (i:Int)) && decide ((l.getD i dS).src≤(l.getD (i - 1) dS).src))
def zyL (f:PForecast):Bool:=zyE f.tide && In (f.surges.length:Int) 1 6 && decide ((f.surges.getD 0 dS).src=0) && decide (∀ i,i < f.surges.length→zyK f.surges i=true)
theorem zyM (s:Sl DSurge):Con.con s=s.l:=List.map_id _
theorem sget {l:List DSurge} {i:Nat} (hi:i < l.length):l.getD i dS=l[i]:=by simp [List.getD_eq_getElem?_getD,hi]
theorem zyN (f:DForecast) (h:Hp) (hf:Enc.ok h f):Ct Tryz.prog 170 [f.v] h fun v h'=>v=.bool (zyL (Con.con f))∧h'=h:=by
 have hp:=hf.2
 have hl:=hp.max
 rw [zyL,show (Con.con f).tide=Con.con f.tide from rfl,show (Con.con f).surges=f.surges.l from zyM _]
 refine zdm (fun A W=>by simp) Tryz.func170 rfl rfl (by simp) fun W0=>?_
 by_cases h0:0 < f.surges.l.length
 ·have hs0:=hp.some h0
  have hf0:(0 < (f.surges.l.length:Int))=True:=eq_true (by omega)
  have hs1:=(zmW hp h0).1
  simp only [go_sem,Nat.zero_mul] at hs1
  repeat' first|refine zid rfl ?_|refine zc4 rfl ?_|refine zc7 ?_|refine zc8 ?_|refine zc5 ?_|refine zc6 ?_|refine zhE (fun _=>zyI _ _ hf.1) ?_|refine zhE (fun _=>zye _ _ _ _) ?_|(simp (maxSteps:=2000000) only [go_sem,yqa,yqb,yqc,yqd,yqe,yqf,hf0,hs0,hs1,Int.toNat_zero,Nat.zero_mul,Int.le_refl,implies_true,true_and,and_true];try rfl)|refine zc3 ?_|(refine And.intro ?_ ?_;focus (intros;simp_all only [yqg,yqh,yqi,and_self,true_and,and_true];done))
  refine zc9 rfl (fun hc=>?_) (fun hc=>?_)
  ·refine Wk ?_
   congr 1
   simp only [yqh,Bool.not_eq_true'] at hc
   rcases hc with (hc|hc)|hc
   ·rw [hc];rfl
   ·rw [In,hc,Bool.and_false];rfl
   ·rw [sget h0,decide_eq_false (by simpa using hc),Bool.and_false,Bool.false_and]
  simp only [yqg,Bool.not_eq_false'] at hc
  obtain ⟨⟨hc1,hc2⟩,hc3⟩:=hc
  have hc3:=zjD hc3
  have hpre:(zyE (Con.con f.tide) && In (f.surges.l.length:Int) 1 6 && decide ((f.surges.l.getD 0 dS).src=0))=true:=by rw [hc1,In,hc2,sget h0,decide_eq_true hc3];rfl
  rw [hpre,Bool.true_and]
  refine Wk ?_
  refine zdd (ι:=Nat) (fun k=>⟨[(1,true,.c (.p 0 0)),(25,true,.c (.v f.surges.val)),(26,true,.c (.v (.int .i64 f.surges.l.length))),(27,true,.c (.v (.int .i64 k)))],[(0,.box 53 [.v (.int .i64 f.tide.mean),.v f.tide.parts.val,.v f.surges.val])],h,1⟩) (fun k=>k≤f.surges.l.length∧∀ i,i < k→zyK f.surges.l i=true) (fun k=>f.surges.l.length - k) 0 ⟨Nat.zero_le _,fun i hi=>absurd hi (Nat.not_lt_zero _)⟩ ?_ ?_
  ·refine Evs ?_
   first|exact rfl|exact ⟨rfl,rfl⟩|exact ⟨rfl,rfl,rfl⟩|exact ⟨rfl,rfl,rfl,rfl⟩|exact ⟨rfl,rfl,rfl,rfl,rfl⟩
  intro k hk
  refine Wk ?_
  refine zc9 rfl (fun hd=>?_) (fun hd=>?_)
  ·have hlt:=zjG hd
   have fin:∀ b:Bool,b=zyK f.surges.l k→(b=false→decide (∀ i,i < f.surges.l.length→zyK f.surges.l i=true)=false)∧(b=true→∀ i,i < k+1→zyK f.surges.l i=true):=by
    rintro b rfl
    refine ⟨fun e=>decide_eq_false fun hh=>(by rw [hh k hlt] at e;cases e),fun e i hi=>?_⟩
    rcases Nat.lt_succ_iff_lt_or_eq.1 hi with hi|rfl
    ·exact hk.2 i hi
    ·exact e
   have hsg:=sget hlt
   rcases Nat.eq_zero_or_pos k with hz|hz
   ·have hfk:(0 < (k:Int))=False:=eq_false (by omega)
    repeat' first|refine zid rfl ?_|refine zc4 rfl ?_|refine zc7 ?_|refine zc8 ?_|refine zc5 ?_|refine zc6 ?_|(simp (maxSteps:=2000000) only [go_sem,yqa,yqb,yqc,yqd,yqe,yqf,zk6 hp hlt,hp.some hlt,hlt,yqj];try rfl)|refine zc3 ?_|(refine And.intro ?_ ?_;focus (intros;simp_all only [yqg,yqh,yqi,and_self,true_and,and_true];done))
    refine ziU rfl ?_
    refine zi2 [0] rfl (by kernel_rfl) ?_
    refine Evs ?_
    refine ziS [1] (by kernel_rfl) (by kernel_rfl) ?_
    refine Evs ?_
    refine zhE (fun _=>zyv _ _) ?_
    refine Evs ?_
    refine zi2 [2,3,4,5,6,7,8,9,10,11,12,13,14,15,16,17,18] rfl (by kernel_rfl) ?_
    simp (maxSteps:=2000000) only [go_sem,yqa,yqb,yqc,yqd,yqe,yqf,hfk,decide_false,Bool.and_false,Bool.false_and,Bool.or_false,Bool.false_eq_true,false_implies,implies_true,true_and,reduceCtorEq]
    refine ziT (by kernel_rfl) ?_
    refine Wk ?_
    refine zc9 rfl (fun hq=>?_) (fun hq=>?_)
    ·refine Wk ?_
     rw [(fin (zyu f.surges.l[k]) (by rw [zyK,hsg];simp only [hfk,decide_false,Bool.false_and,Bool.not_false,Bool.and_true])).1 (by simpa using hq)]
    ·refine Wk ?_
     exact ⟨k+1,⟨hlt,(fin (zyu f.surges.l[k]) (by rw [zyK,hsg];simp only [hfk,decide_false,Bool.false_and,Bool.not_false,Bool.and_true])).2 (by simpa using hq)⟩,by omega,zjA (zjz hlt (by omega))⟩
   ·have hfk:(0 < (k:Int))=True:=eq_true (by omega)
    have hk1:k - 1 < f.surges.l.length:=by omega
    have hw:IntKind.i64.wrap ((k:Int) - 1)=((k - 1:Nat):Int):=by rw [zjy (by omega)];omega
    repeat' first|refine zid rfl ?_|refine zc4 rfl ?_|refine zc7 ?_|refine zc8 ?_|refine zc5 ?_|refine zc6 ?_|(simp (maxSteps:=2000000) only [go_sem,yqa,yqb,yqc,yqd,yqe,yqf,zk6 hp hlt,hp.some hlt,hlt,yqj];try rfl)|refine zc3 ?_|(refine And.intro ?_ ?_;focus (intros;simp_all only [yqg,yqh,yqi,and_self,true_and,and_true];done))
    refine ziU rfl ?_
    refine zi2 [0] rfl (by kernel_rfl) ?_
    refine Evs ?_
    refine ziS [1] (by kernel_rfl) (by kernel_rfl) ?_
    refine Evs ?_
    refine zhE (fun _=>zyv _ _) ?_
    refine Evs ?_
    refine zi2 [2,3,4,5,6,7,8,9,10,11,12,13,14,15,16,17,18] rfl (by kernel_rfl) ?_
    simp (maxSteps:=2000000) only [go_sem,yqa,yqb,yqc,yqd,yqe,yqf,hfk,hw,zmW hp hk1,hp.some hk1,hk1,yqj,decide_true,and_true,imp_self,implies_true,true_and,Bool.true_and,Bool.and_true]
    refine ziT (by kernel_rfl) ?_
    refine Wk ?_
    refine zc9 rfl (fun hq=>?_) (fun hq=>?_)
    ·refine Wk ?_
     rw [(fin _ rfl).1 ?_]
     rw [zyK,sget hlt,sget hk1]
     rcases (yqh _ _).mp hq with h1|h1
     ·rw [Bool.not_eq_true'] at h1
      rw [h1];rfl
     ·rw [decide_eq_true (show 0 < (k:Int) by omega),decide_eq_true (of_decide_eq_true h1),Bool.and_self,Bool.not_true,Bool.and_false]
    ·refine Wk ?_
     refine ⟨k+1,⟨hlt,(fin _ rfl).2 ?_⟩,by omega,zjA (zjz hlt (by omega))⟩
     rw [zyK,sget hlt,sget hk1]
     obtain ⟨h1,h2⟩:=Bool.or_eq_false_iff.1 hq
     rw [Bool.not_eq_false'] at h1
     rw [h1,decide_eq_false (of_decide_eq_false h2),Bool.and_false];rfl
  ·have hge:=zjH hd
   refine Wk ?_
   exact zjF (fun i hi=>hk.2 i (by omega))
 ·have h1f:(1≤(f.surges.l.length:Int))=False:=eq_false (by omega)
  repeat' first|refine zid rfl ?_|refine zc4 rfl ?_|refine zc7 ?_|refine zc8 ?_|refine zc5 ?_|refine zc6 ?_|refine zhE (fun _=>zyI _ _ hf.1) ?_|refine zhE (fun _=>zye _ _ _ _) ?_|(simp (maxSteps:=2000000) only [go_sem,yqa,yqb,yqc,yqd,yqe,yqf,h1f,decide_false,Bool.false_and,Bool.not_false,Bool.or_true,reduceCtorEq,false_implies,true_and];try rfl)|refine zc3 ?_|(refine And.intro ?_ ?_;focus (intros;simp_all only [yqg,yqh,yqi,and_self,true_and,and_true];done))
  refine zc9 rfl (fun hc=>?_) (fun hc=>?_)
  ·refine Wk ?_
   congr 1
   simp only [In,h1f,decide_false,Bool.false_and,Bool.and_false]
  ·simp at hc
theorem zyO (f:DForecast) (h:Hp) (hf:Enc.ok h f):Ct Tryz.prog 148 [f.v] h fun v h'=>v=.bool (zyL (Con.con f))∧h'=h:=by
 have hp:=hf.2
 have hl:=hp.max
 rw [zyL,show (Con.con f).tide=Con.con f.tide from rfl,show (Con.con f).surges=f.surges.l from zyM _]
 refine zdm (fun A W=>by simp) Tryz.func148 rfl rfl (by simp) fun W0=>?_
 by_cases h0:0 < f.surges.l.length
 ·have hs0:=hp.some h0
  have hf0:(0 < (f.surges.l.length:Int))=True:=eq_true (by omega)
  have hs1:=(zmW hp h0).1
  simp only [go_sem,Nat.zero_mul] at hs1
  repeat' first|refine zid rfl ?_|refine zc4 rfl ?_|refine zc7 ?_|refine zc8 ?_|refine zc5 ?_|refine zc6 ?_|refine zhE (fun _=>zyJ _ _ hf.1) ?_|refine zhE (fun _=>zyf _ _ _ _) ?_|(simp (maxSteps:=2000000) only [go_sem,yqa,yqb,yqc,yqd,yqe,yqf,hf0,hs0,hs1,Int.toNat_zero,Nat.zero_mul,Int.le_refl,implies_true,true_and,and_true];try rfl)|refine zc3 ?_|(refine And.intro ?_ ?_;focus (intros;simp_all only [yqg,yqh,yqi,and_self,true_and,and_true];done))
  refine zc9 rfl (fun hc=>?_) (fun hc=>?_)
  ·refine Wk ?_
   congr 1
   simp only [yqh,Bool.not_eq_true'] at hc
   rcases hc with (hc|hc)|hc
   ·rw [hc];rfl
   ·rw [In,hc,Bool.and_false];rfl
   ·rw [sget h0,decide_eq_false (by simpa using hc),Bool.and_false,Bool.false_and]
  simp only [yqg,Bool.not_eq_false'] at hc
  obtain ⟨⟨hc1,hc2⟩,hc3⟩:=hc
  have hc3:=zjD hc3
  have hpre:(zyE (Con.con f.tide) && In (f.surges.l.length:Int) 1 6 && decide ((f.surges.l.getD 0 dS).src=0))=true:=by rw [hc1,In,hc2,sget h0,decide_eq_true hc3];rfl
  rw [hpre,Bool.true_and]
  refine Wk ?_
  refine zdd (ι:=Nat) (fun k=>⟨[(1,true,.c (.p 0 0)),(25,true,.c (.v f.surges.val)),(26,true,.c (.v (.int .i64 f.surges.l.length))),(27,true,.c (.v (.int .i64 k)))],[(0,.box 53 [.v (.int .i64 f.tide.mean),.v f.tide.parts.val,.v f.surges.val])],h,1⟩) (fun k=>k≤f.surges.l.length∧∀ i,i < k→zyK f.surges.l i=true) (fun k=>f.surges.l.length - k) 0 ⟨Nat.zero_le _,fun i hi=>absurd hi (Nat.not_lt_zero _)⟩ ?_ ?_
  ·refine Evs ?_
   first|exact rfl|exact ⟨rfl,rfl⟩|exact ⟨rfl,rfl,rfl⟩|exact ⟨rfl,rfl,rfl,rfl⟩|exact ⟨rfl,rfl,rfl,rfl,rfl⟩
  intro k hk
  refine Wk ?_
  refine zc9 rfl (fun hd=>?_) (fun hd=>?_)
  ·have hlt:=zjG hd
   have fin:∀ b:Bool,b=zyK f.surges.l k→(b=false→decide (∀ i,i < f.surges.l.length→zyK f.surges.l i=true)=false)∧(b=true→∀ i,i < k+1→zyK f.surges.l i=true):=by
    rintro b rfl
    refine ⟨fun e=>decide_eq_false fun hh=>(by rw [hh k hlt] at e;cases e),fun e i hi=>?_⟩
    rcases Nat.lt_succ_iff_lt_or_eq.1 hi with hi|rfl
    ·exact hk.2 i hi
    ·exact e
   have hsg:=sget hlt
   rcases Nat.eq_zero_or_pos k with hz|hz
   ·have hfk:(0 < (k:Int))=False:=eq_false (by omega)
    repeat' first|refine zid rfl ?_|refine zc4 rfl ?_|refine zc7 ?_|refine zc8 ?_|refine zc5 ?_|refine zc6 ?_|(simp (maxSteps:=2000000) only [go_sem,yqa,yqb,yqc,yqd,yqe,yqf,zk6 hp hlt,hp.some hlt,hlt,yqj];try rfl)|refine zc3 ?_|(refine And.intro ?_ ?_;focus (intros;simp_all only [yqg,yqh,yqi,and_self,true_and,and_true];done))
    refine ziU rfl ?_
    refine zi2 [0] rfl (by kernel_rfl) ?_
    refine Evs ?_
    refine ziS [1] (by kernel_rfl) (by kernel_rfl) ?_
    refine Evs ?_
    refine zhE (fun _=>zyw _ _) ?_
    refine Evs ?_
    refine zi2 [2,3,4,5,6,7,8,9,10,11,12,13,14,15,16,17,18] rfl (by kernel_rfl) ?_
    simp (maxSteps:=2000000) only [go_sem,yqa,yqb,yqc,yqd,yqe,yqf,hfk,decide_false,Bool.and_false,Bool.false_and,Bool.or_false,Bool.false_eq_true,false_implies,implies_true,true_and,reduceCtorEq]
    refine ziT (by kernel_rfl) ?_
    refine Wk ?_
    refine zc9 rfl (fun hq=>?_) (fun hq=>?_)
    ·refine Wk ?_
     rw [(fin (zyu f.surges.l[k]) (by rw [zyK,hsg];simp only [hfk,decide_false,Bool.false_and,Bool.not_false,Bool.and_true])).1 (by simpa using hq)]
    ·refine Wk ?_
     exact ⟨k+1,⟨hlt,(fin (zyu f.surges.l[k]) (by rw [zyK,hsg];simp only [hfk,decide_false,Bool.false_and,Bool.not_false,Bool.and_true])).2 (by simpa using hq)⟩,by omega,zjA (zjz hlt (by omega))⟩
   ·have hfk:(0 < (k:Int))=True:=eq_true (by omega)
    have hk1:k - 1 < f.surges.l.length:=by omega
    have hw:IntKind.i64.wrap ((k:Int) - 1)=((k - 1:Nat):Int):=by rw [zjy (by omega)];omega
    repeat' first|refine zid rfl ?_|refine zc4 rfl ?_|refine zc7 ?_|refine zc8 ?_|refine zc5 ?_|refine zc6 ?_|(simp (maxSteps:=2000000) only [go_sem,yqa,yqb,yqc,yqd,yqe,yqf,zk6 hp hlt,hp.some hlt,hlt,yqj];try rfl)|refine zc3 ?_|(refine And.intro ?_ ?_;focus (intros;simp_all only [yqg,yqh,yqi,and_self,true_and,and_true];done))
    refine ziU rfl ?_
    refine zi2 [0] rfl (by kernel_rfl) ?_
    refine Evs ?_
    refine ziS [1] (by kernel_rfl) (by kernel_rfl) ?_
    refine Evs ?_
    refine zhE (fun _=>zyw _ _) ?_
    refine Evs ?_
    refine zi2 [2,3,4,5,6,7,8,9,10,11,12,13,14,15,16,17,18] rfl (by kernel_rfl) ?_
    simp (maxSteps:=2000000) only [go_sem,yqa,yqb,yqc,yqd,yqe,yqf,hfk,hw,zmW hp hk1,hp.some hk1,hk1,yqj,decide_true,and_true,imp_self,implies_true,true_and,Bool.true_and,Bool.and_true]
    refine ziT (by kernel_rfl) ?_
    refine Wk ?_
    refine zc9 rfl (fun hq=>?_) (fun hq=>?_)
    ·refine Wk ?_
     rw [(fin _ rfl).1 ?_]
     rw [zyK,sget hlt,sget hk1]
     rcases (yqh _ _).mp hq with h1|h1
     ·rw [Bool.not_eq_true'] at h1
      rw [h1];rfl
     ·rw [decide_eq_true (show 0 < (k:Int) by omega),decide_eq_true (of_decide_eq_true h1),Bool.and_self,Bool.not_true,Bool.and_false]
    ·refine Wk ?_
     refine ⟨k+1,⟨hlt,(fin _ rfl).2 ?_⟩,by omega,zjA (zjz hlt (by omega))⟩
     rw [zyK,sget hlt,sget hk1]
     obtain ⟨h1,h2⟩:=Bool.or_eq_false_iff.1 hq
     rw [Bool.not_eq_false'] at h1
     rw [h1,decide_eq_false (of_decide_eq_false h2),Bool.and_false];rfl
  ·have hge:=zjH hd
   refine Wk ?_
   exact zjF (fun i hi=>hk.2 i (by omega))
 ·have h1f:(1≤(f.surges.l.length:Int))=False:=eq_false (by omega)
  repeat' first|refine zid rfl ?_|refine zc4 rfl ?_|refine zc7 ?_|refine zc8 ?_|refine zc5 ?_|refine zc6 ?_|refine zhE (fun _=>zyJ _ _ hf.1) ?_|refine zhE (fun _=>zyf _ _ _ _) ?_|(simp (maxSteps:=2000000) only [go_sem,yqa,yqb,yqc,yqd,yqe,yqf,h1f,decide_false,Bool.false_and,Bool.not_false,Bool.or_true,reduceCtorEq,false_implies,true_and];try rfl)|refine zc3 ?_|(refine And.intro ?_ ?_;focus (intros;simp_all only [yqg,yqh,yqi,and_self,true_and,and_true];done))
  refine zc9 rfl (fun hc=>?_) (fun hc=>?_)
  ·refine Wk ?_
   congr 1
   simp only [In,h1f,decide_false,Bool.false_and,Bool.and_false]
  ·simp at hc
end Go.Proofs.YtbkaaakphpbmiaaGreat
