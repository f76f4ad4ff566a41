/- The walk of a law of the given program, and the law itself as it is stated: it holds of every input. No condition. -/
import Derived.Test.YtjiggadgmmjnhaaRows
import Derived.Test.YtjiggadgmmjnhaaXLeastCover9
set_option linter.unusedVariables false
set_option linter.unusedSimpArgs false
namespace Go.Proofs.Ytjiggadgmmjnhaa
open Go Go.SL Go.RowKit Go.ChangeShapes Go.WideShapes Go.ChangeAt
set_option maxHeartbeats 1000000
set_option maxRecDepth 100000 in
theorem FnExactLeastCover_fn (a0:Int) (a1:Sl Int) (a2:Sl DDuty) (h:Hp) (oa0:Enc.ok h a0) (oa1:Enc.ok h a1) (oa2:Enc.ok h a2):Ct Try.prog 3 [.int .i64 a0,a1.val,a2.val] h fun v h'=>v=.bool true:=by
  refine zdn (fun A W=>by simp) Try.func3 rfl rfl (by simp) fun W0=>?_
  repeat' first|refine zie rfl ?_|refine zc4 rfl ?_|refine zc7 ?_|refine zc8 ?_|refine zc5 ?_|refine zc6 ?_|(simp (maxSteps:=2000000) only [go_sem,Nat.reduceAdd,Nat.reduceMul,Nat.reduceBEq,Nat.reduceLeDiff,Nat.reduceLT,Nat.reduceEqDiff];try rfl)|refine zc3 ?_|(refine And.intro ?_ ?_;focus (intros;simp_all only [Bool.or_eq_false_iff,Bool.or_eq_true,Bool.and_eq_true,and_self,true_and,and_true];done))
  refine zc9 rfl (fun c1=>?_) (fun c1=>?_)
  · repeat' first|refine zie rfl ?_|refine zc4 rfl ?_|refine zc7 ?_|refine zc8 ?_|refine zc5 ?_|refine zc6 ?_|(simp (maxSteps:=2000000) only [go_sem,Nat.reduceAdd,Nat.reduceMul,Nat.reduceBEq,Nat.reduceLeDiff,Nat.reduceLT,Nat.reduceEqDiff];try rfl)|refine zc3 ?_|(refine And.intro ?_ ?_;focus (intros;simp_all only [Bool.or_eq_false_iff,Bool.or_eq_true,Bool.and_eq_true,and_self,true_and,and_true];done))
  have hb1:Blk.blk a1≤1048576:=by
    rw [zkD (fun _=>rfl)]
    have:=of_decide_eq_false c1
    omega
  repeat' first|refine zie rfl ?_|refine zc4 rfl ?_|refine zc7 ?_|refine zc8 ?_|refine zc5 ?_|refine zc6 ?_|(simp (maxSteps:=2000000) only [go_sem,Nat.reduceAdd,Nat.reduceMul,Nat.reduceBEq,Nat.reduceLeDiff,Nat.reduceLT,Nat.reduceEqDiff];try rfl)|refine zc3 ?_|(refine And.intro ?_ ?_;focus (intros;simp_all only [Bool.or_eq_false_iff,Bool.or_eq_true,Bool.and_eq_true,and_self,true_and,and_true];done))
  refine zhF (fun _=>zwY _ _ _ oa2 (by omega)) ?_
  repeat' first|refine zie rfl ?_|refine zc4 rfl ?_|refine zc7 ?_|refine zc8 ?_|refine zc5 ?_|refine zc6 ?_|(simp (maxSteps:=2000000) only [go_sem,Nat.reduceAdd,Nat.reduceMul,Nat.reduceBEq,Nat.reduceLeDiff,Nat.reduceLT,Nat.reduceEqDiff];try rfl)|refine zc3 ?_|(refine And.intro ?_ ?_;focus (intros;simp_all only [Bool.or_eq_false_iff,Bool.or_eq_true,Bool.and_eq_true,and_self,true_and,and_true];done))
  refine zc9 rfl (fun c2=>?_) (fun c2=>?_)
  · repeat' first|refine zie rfl ?_|refine zc4 rfl ?_|refine zc7 ?_|refine zc8 ?_|refine zc5 ?_|refine zc6 ?_|(simp (maxSteps:=2000000) only [go_sem,Nat.reduceAdd,Nat.reduceMul,Nat.reduceBEq,Nat.reduceLeDiff,Nat.reduceLT,Nat.reduceEqDiff];try rfl)|refine zc3 ?_|(refine And.intro ?_ ?_;focus (intros;simp_all only [Bool.or_eq_false_iff,Bool.or_eq_true,Bool.and_eq_true,and_self,true_and,and_true];done))
  have hp2:=zkG c2
  have hn2:=zkI (show (0:Int)≤1048576∧(1048576:Int)≤1048576 by omega) hp2
  have hb2:Blk.blk a2≤1048576:=by have h1:=zkJ hp2;have h2:=(show (0:Int)≤1048576∧(1048576:Int)≤1048576 by omega);omega
  repeat' first|refine zie rfl ?_|refine zc4 rfl ?_|refine zc7 ?_|refine zc8 ?_|refine zc5 ?_|refine zc6 ?_|(simp (maxSteps:=2000000) only [go_sem,Nat.reduceAdd,Nat.reduceMul,Nat.reduceBEq,Nat.reduceLeDiff,Nat.reduceLT,Nat.reduceEqDiff];try rfl)|refine zc3 ?_|(refine And.intro ?_ ?_;focus (intros;simp_all only [Bool.or_eq_false_iff,Bool.or_eq_true,Bool.and_eq_true,and_self,true_and,and_true];done))
  refine zkr (zqQ _ _ oa1 hb1) rfl ?_
  rintro v h1 le1 ⟨s1,rfl,e1,ok1,m1⟩
  have Lh:=le1
  repeat' first|refine zie rfl ?_|refine zc4 rfl ?_|refine zc7 ?_|refine zc8 ?_|refine zc5 ?_|refine zc6 ?_|(simp (maxSteps:=2000000) only [go_sem,Nat.reduceAdd,Nat.reduceMul,Nat.reduceBEq,Nat.reduceLeDiff,Nat.reduceLT,Nat.reduceEqDiff];try rfl)|refine zc3 ?_|(refine And.intro ?_ ?_;focus (intros;simp_all only [Bool.or_eq_false_iff,Bool.or_eq_true,Bool.and_eq_true,and_self,true_and,and_true];done))
  refine zkr (zw0 _ _ (Enc.mono (x:=a2) Lh oa2) hb2) rfl ?_
  rintro v h2 le2 ⟨s2,rfl,e2,ok2,m2⟩
  replace ok1:=Enc.mono (x:=s1) le2 ok1
  replace Lh:=Hp.le_trans Lh le2
  repeat' first|refine zie rfl ?_|refine zc4 rfl ?_|refine zc7 ?_|refine zc8 ?_|refine zc5 ?_|refine zc6 ?_|(simp (maxSteps:=2000000) only [go_sem,Nat.reduceAdd,Nat.reduceMul,Nat.reduceBEq,Nat.reduceLeDiff,Nat.reduceLT,Nat.reduceEqDiff];try rfl)|refine zc3 ?_|(refine And.intro ?_ ?_;focus (intros;simp_all only [Bool.or_eq_false_iff,Bool.or_eq_true,Bool.and_eq_true,and_self,true_and,and_true];done))
  refine zkr (zw6 _ _ _ _ oa0 ok1 ok2) rfl ?_
  rintro v h3 le3 ⟨s3,rfl,e3,ok3,m3⟩
  replace ok1:=Enc.mono (x:=s1) le3 ok1
  replace ok2:=Enc.mono (x:=s2) le3 ok2
  replace Lh:=Hp.le_trans Lh le3
  have okw:=ok3
  have Lh3:=Hp.le_refl h3
  repeat' first|refine zie rfl ?_|refine zc4 rfl ?_|refine zc7 ?_|refine zc8 ?_|refine zc5 ?_|refine zc6 ?_|(simp (maxSteps:=2000000) only [go_sem,Nat.reduceAdd,Nat.reduceMul,Nat.reduceBEq,Nat.reduceLeDiff,Nat.reduceLT,Nat.reduceEqDiff];try rfl)|refine zc3 ?_|(refine And.intro ?_ ?_;focus (intros;simp_all only [Bool.or_eq_false_iff,Bool.or_eq_true,Bool.and_eq_true,and_self,true_and,and_true];done))
  refine zkr (zqQ _ _ (Enc.mono (x:=a1) Lh oa1) hb1) rfl ?_
  rintro v h4 le4 ⟨s4,rfl,e4,ok4,m4⟩
  have n4_h:∀ b ∈ Foot.foot s4,h b=none:=fun b hb=>zmE Lh (m4.2.1 b hb)
  have n4_h3:∀ b ∈ Foot.foot s4,h3 b=none:=fun b hb=>zmE Lh3 (m4.2.1 b hb)
  replace ok1:=Enc.mono (x:=s1) le4 ok1
  replace ok2:=Enc.mono (x:=s2) le4 ok2
  replace Lh:=Hp.le_trans Lh le4
  replace Lh3:=Hp.le_trans Lh3 le4
  have ow4:=m4.1
  repeat' first|refine zie rfl ?_|refine zc4 rfl ?_|refine zc7 ?_|refine zc8 ?_|refine zc5 ?_|refine zc6 ?_|(simp (maxSteps:=2000000) only [go_sem,Nat.reduceAdd,Nat.reduceMul,Nat.reduceBEq,Nat.reduceLeDiff,Nat.reduceLT,Nat.reduceEqDiff];try rfl)|refine zc3 ?_|(refine And.intro ?_ ?_;focus (intros;simp_all only [Bool.or_eq_false_iff,Bool.or_eq_true,Bool.and_eq_true,and_self,true_and,and_true];done))
  refine zkr (zw0 _ _ (Enc.mono (x:=a2) Lh oa2) hb2) rfl ?_
  rintro v h5 le5 ⟨s5,rfl,e5,ok5,m5⟩
  have d5_4:∀ b ∈ Foot.foot s5,¬ (b ∈ Foot.foot s4):=fun b hb hu=>Foot.dom (x:=s4) ow4 b hu (m5.2.1 b hb)
  have n5_h:∀ b ∈ Foot.foot s5,h b=none:=fun b hb=>zmE Lh (m5.2.1 b hb)
  have n5_h3:∀ b ∈ Foot.foot s5,h3 b=none:=fun b hb=>zmE Lh3 (m5.2.1 b hb)
  replace ow4:=zmF (x:=s4) le5 ok4 ow4
  replace ok4:=Enc.mono (x:=s4) le5 ok4
  replace ok1:=Enc.mono (x:=s1) le5 ok1
  replace ok2:=Enc.mono (x:=s2) le5 ok2
  replace Lh:=Hp.le_trans Lh le5
  replace Lh3:=Hp.le_trans Lh3 le5
  have ow5:=m5.1
  repeat' first|refine zie rfl ?_|refine zc4 rfl ?_|refine zc7 ?_|refine zc8 ?_|refine zc5 ?_|refine zc6 ?_|(simp (maxSteps:=2000000) only [go_sem,Nat.reduceAdd,Nat.reduceMul,Nat.reduceBEq,Nat.reduceLeDiff,Nat.reduceLT,Nat.reduceEqDiff];try rfl)|refine zc3 ?_|(refine And.intro ?_ ?_;focus (intros;simp_all only [Bool.or_eq_false_iff,Bool.or_eq_true,Bool.and_eq_true,and_self,true_and,and_true];done))
  refine zkr (zw7 _ _ _ _ oa0 ok4 ok5) rfl ?_
  rintro v h6 le6 ⟨s6,rfl,e6,ok6,m6⟩
  have d6_4:∀ b ∈ Foot.foot s6,¬ (b ∈ Foot.foot s4):=fun b hb hu=>Foot.dom (x:=s4) ow4 b hu (m6.2.1 b hb)
  have d6_5:∀ b ∈ Foot.foot s6,¬ (b ∈ Foot.foot s5):=fun b hb hu=>Foot.dom (x:=s5) ow5 b hu (m6.2.1 b hb)
  have n6_h:∀ b ∈ Foot.foot s6,h b=none:=fun b hb=>zmE Lh (m6.2.1 b hb)
  have n6_h3:∀ b ∈ Foot.foot s6,h3 b=none:=fun b hb=>zmE Lh3 (m6.2.1 b hb)
  replace ow4:=zmF (x:=s4) le6 ok4 ow4
  replace ok4:=Enc.mono (x:=s4) le6 ok4
  replace ow5:=zmF (x:=s5) le6 ok5 ow5
  replace ok5:=Enc.mono (x:=s5) le6 ok5
  replace ok1:=Enc.mono (x:=s1) le6 ok1
  replace ok2:=Enc.mono (x:=s2) le6 ok2
  replace Lh:=Hp.le_trans Lh le6
  replace Lh3:=Hp.le_trans Lh3 le6
  have ow6:=m6.1
  repeat' first|refine zie rfl ?_|refine zc4 rfl ?_|refine zc7 ?_|refine zc8 ?_|refine zc5 ?_|refine zc6 ?_|(simp (maxSteps:=2000000) only [go_sem,Nat.reduceAdd,Nat.reduceMul,Nat.reduceBEq,Nat.reduceLeDiff,Nat.reduceLT,Nat.reduceEqDiff];try rfl)|refine zc3 ?_|(refine And.intro ?_ ?_;focus (intros;simp_all only [Bool.or_eq_false_iff,Bool.or_eq_true,Bool.and_eq_true,and_self,true_and,and_true];done))
  refine zhF (fun _=>zq1 _ _ _ ok6 (Enc.mono (x:=s3) Lh3 ok3)) ?_
  repeat' first|refine zie rfl ?_|refine zc4 rfl ?_|refine zc7 ?_|refine zc8 ?_|refine zc5 ?_|refine zc6 ?_|(simp (maxSteps:=2000000) only [go_sem,Nat.reduceAdd,Nat.reduceMul,Nat.reduceBEq,Nat.reduceLeDiff,Nat.reduceLT,Nat.reduceEqDiff];try rfl)|refine zc3 ?_|(refine And.intro ?_ ?_;focus (intros;simp_all only [Bool.or_eq_false_iff,Bool.or_eq_true,Bool.and_eq_true,and_self,true_and,and_true];done))
  refine zc9 rfl (fun c3=>?_) (fun c3=>?_)
  · simp only [Bool.or_eq_true] at c3
    rcases c3 with (c3|c3)|c3
    · (rw [Bool.not_eq_true'] at c3;exact (of_decide_eq_false c3 (by simp only [e1,e2,e3,e4,e5,e6])).elim)
    · (exact absurd (by simp only [e1,e2,e3,e4,e5,e6]) (zjD c3))
    · (exact absurd (by simp only [e1,e2,e3,e4,e5,e6]) (zjD c3))
  repeat' first|refine zie rfl ?_|refine zc4 rfl ?_|refine zc7 ?_|refine zc8 ?_|refine zc5 ?_|refine zc6 ?_|(simp (maxSteps:=2000000) only [go_sem,Nat.reduceAdd,Nat.reduceMul,Nat.reduceBEq,Nat.reduceLeDiff,Nat.reduceLT,Nat.reduceEqDiff];try rfl)|refine zc3 ?_|(refine And.intro ?_ ?_;focus (intros;simp_all only [Bool.or_eq_false_iff,Bool.or_eq_true,Bool.and_eq_true,and_self,true_and,and_true];done))
  refine zkr (zqQ _ _ (Enc.mono (x:=a1) Lh oa1) hb1) rfl ?_
  rintro v h7 le7 ⟨s7,rfl,e7,ok7,m7⟩
  replace ow4:=zmF (x:=s4) le7 ok4 ow4
  replace ok4:=Enc.mono (x:=s4) le7 ok4
  replace ow5:=zmF (x:=s5) le7 ok5 ow5
  replace ok5:=Enc.mono (x:=s5) le7 ok5
  replace ow6:=zmF (x:=s6) le7 ok6 ow6
  replace ok6:=Enc.mono (x:=s6) le7 ok6
  replace ok1:=Enc.mono (x:=s1) le7 ok1
  replace ok2:=Enc.mono (x:=s2) le7 ok2
  replace Lh:=Hp.le_trans Lh le7
  replace Lh3:=Hp.le_trans Lh3 le7
  repeat' first|refine zie rfl ?_|refine zc4 rfl ?_|refine zc7 ?_|refine zc8 ?_|refine zc5 ?_|refine zc6 ?_|(simp (maxSteps:=2000000) only [go_sem,Nat.reduceAdd,Nat.reduceMul,Nat.reduceBEq,Nat.reduceLeDiff,Nat.reduceLT,Nat.reduceEqDiff];try rfl)|refine zc3 ?_|(refine And.intro ?_ ?_;focus (intros;simp_all only [Bool.or_eq_false_iff,Bool.or_eq_true,Bool.and_eq_true,and_self,true_and,and_true];done))
  refine zhF (fun _=>zq1 _ _ _ ok4 ok7) ?_
  repeat' first|refine zie rfl ?_|refine zc4 rfl ?_|refine zc7 ?_|refine zc8 ?_|refine zc5 ?_|refine zc6 ?_|(simp (maxSteps:=2000000) only [go_sem,Nat.reduceAdd,Nat.reduceMul,Nat.reduceBEq,Nat.reduceLeDiff,Nat.reduceLT,Nat.reduceEqDiff];try rfl)|refine zc3 ?_|(refine And.intro ?_ ?_;focus (intros;simp_all only [Bool.or_eq_false_iff,Bool.or_eq_true,Bool.and_eq_true,and_self,true_and,and_true];done))
  refine zc9 rfl (fun c4=>?_) (fun c4=>?_)
  · (rw [Bool.not_eq_true'] at c4;exact (of_decide_eq_false c4 (by simp only [e1,e2,e3,e4,e5,e6,e7])).elim)
  repeat' first|refine zie rfl ?_|refine zc4 rfl ?_|refine zc7 ?_|refine zc8 ?_|refine zc5 ?_|refine zc6 ?_|(simp (maxSteps:=2000000) only [go_sem,Nat.reduceAdd,Nat.reduceMul,Nat.reduceBEq,Nat.reduceLeDiff,Nat.reduceLT,Nat.reduceEqDiff];try rfl)|refine zc3 ?_|(refine And.intro ?_ ?_;focus (intros;simp_all only [Bool.or_eq_false_iff,Bool.or_eq_true,Bool.and_eq_true,and_self,true_and,and_true];done))
  refine zkr (zw0 _ _ (Enc.mono (x:=a2) Lh oa2) hb2) rfl ?_
  rintro v h8 le8 ⟨s8,rfl,e8,ok8,m8⟩
  replace ow4:=zmF (x:=s4) le8 ok4 ow4
  replace ok4:=Enc.mono (x:=s4) le8 ok4
  replace ow5:=zmF (x:=s5) le8 ok5 ow5
  replace ok5:=Enc.mono (x:=s5) le8 ok5
  replace ow6:=zmF (x:=s6) le8 ok6 ow6
  replace ok6:=Enc.mono (x:=s6) le8 ok6
  replace ok1:=Enc.mono (x:=s1) le8 ok1
  replace ok2:=Enc.mono (x:=s2) le8 ok2
  replace ok7:=Enc.mono (x:=s7) le8 ok7
  replace Lh:=Hp.le_trans Lh le8
  replace Lh3:=Hp.le_trans Lh3 le8
  repeat' first|refine zie rfl ?_|refine zc4 rfl ?_|refine zc7 ?_|refine zc8 ?_|refine zc5 ?_|refine zc6 ?_|(simp (maxSteps:=2000000) only [go_sem,Nat.reduceAdd,Nat.reduceMul,Nat.reduceBEq,Nat.reduceLeDiff,Nat.reduceLT,Nat.reduceEqDiff];try rfl)|refine zc3 ?_|(refine And.intro ?_ ?_;focus (intros;simp_all only [Bool.or_eq_false_iff,Bool.or_eq_true,Bool.and_eq_true,and_self,true_and,and_true];done))
  refine zhF (fun _=>zw2 _ _ _ ok5 ok8) ?_
  repeat' first|refine zie rfl ?_|refine zc4 rfl ?_|refine zc7 ?_|refine zc8 ?_|refine zc5 ?_|refine zc6 ?_|(simp (maxSteps:=2000000) only [go_sem,Nat.reduceAdd,Nat.reduceMul,Nat.reduceBEq,Nat.reduceLeDiff,Nat.reduceLT,Nat.reduceEqDiff];try rfl)|refine zc3 ?_|(refine And.intro ?_ ?_;focus (intros;simp_all only [Bool.or_eq_false_iff,Bool.or_eq_true,Bool.and_eq_true,and_self,true_and,and_true];done))
  refine zc9 rfl (fun c5=>?_) (fun c5=>?_)
  · (rw [Bool.not_eq_true'] at c5;exact (of_decide_eq_false c5 (by simp only [e1,e2,e3,e4,e5,e6,e7,e8])).elim)
  refine zc5 ?_
  simp (maxSteps:=2000000) only [go_sem,Nat.reduceAdd,Nat.reduceMul,Nat.reduceBEq,Nat.reduceLeDiff,Nat.reduceLT,Nat.reduceEqDiff]
  refine zie rfl ?_
  simp (maxSteps:=2000000) only [go_sem,Nat.reduceAdd,Nat.reduceMul,Nat.reduceBEq,Nat.reduceLeDiff,Nat.reduceLT,Nat.reduceEqDiff]
  refine zwx [0,0,1] rfl ?_
  simp (maxSteps:=2000000) only [go_sem,Nat.reduceAdd,Nat.reduceMul,Nat.reduceBEq,Nat.reduceLeDiff,Nat.reduceLT,Nat.reduceEqDiff]
  have cn9:Mk.cnt s4≤6 * 1048576:=zwU rfl (zwR e4 hb1)
  refine zlE (x:=⟨Try.prog,W0,h,_⟩) (zw3 s4 (1:Int) _ ok4 ow4 m4.2.2 (by omega)) rfl (fun b hb=>⟨Foot.dom (x:=s4) ow4 b hb,.inl (n4_h b hb)⟩) ?_
  rintro v h9 kp9 ⟨rfl,ok9,ow9⟩
  replace ow5:=(ok_keep (x:=s5) ok5 ow5 d5_4 kp9)
  have ok5':=ow5.1
  clear ok5
  have ok5:=ok5'
  clear ok5'
  replace ow5:=ow5.2
  replace ow6:=(ok_keep (x:=s6) ok6 ow6 d6_4 kp9)
  have ok6':=ow6.1
  clear ok6
  have ok6:=ok6'
  clear ok6'
  replace ow6:=ow6.2
  replace Lh:=zwT Lh n4_h kp9
  replace Lh3:=zwT Lh3 n4_h3 kp9
  simp (maxSteps:=2000000) only [go_sem,Nat.reduceAdd,Nat.reduceMul,Nat.reduceBEq,Nat.reduceLeDiff,Nat.reduceLT,Nat.reduceEqDiff]
  refine zwx [0,0,1] rfl ?_
  simp (maxSteps:=2000000) only [go_sem,Nat.reduceAdd,Nat.reduceMul,Nat.reduceBEq,Nat.reduceLeDiff,Nat.reduceLT,Nat.reduceEqDiff]
  have cn10:Mk.cnt s5≤6 * 1048576:=zwU rfl (zwR e5 hb2)
  refine zlE (x:=⟨Try.prog,W0,h,_⟩) (zw4 s5 ((1:Int)+(Mk.cnt s4:Nat)) _ ok5 ow5 m5.2.2 (by omega)) rfl (fun b hb=>⟨Foot.dom (x:=s5) ow5 b hb,.inl (n5_h b hb)⟩) ?_
  rintro v h10 kp10 ⟨rfl,ok10,ow10⟩
  replace ow9:=(ok_keep (x:=(Mk.put s4 (1:Int))) ok9 ow9 (fun b hb hu=>d5_4 b hu (by first|exact hb|(rw [MkOk.foot] at hb;exact hb))) kp10)
  have ok9':=ow9.1
  clear ok9
  have ok9:=ok9'
  clear ok9'
  replace ow9:=ow9.2
  replace ow6:=(ok_keep (x:=s6) ok6 ow6 d6_5 kp10)
  have ok6':=ow6.1
  clear ok6
  have ok6:=ok6'
  clear ok6'
  replace ow6:=ow6.2
  replace Lh:=zwT Lh n5_h kp10
  replace Lh3:=zwT Lh3 n5_h3 kp10
  simp (maxSteps:=2000000) only [go_sem,Nat.reduceAdd,Nat.reduceMul,Nat.reduceBEq,Nat.reduceLeDiff,Nat.reduceLT,Nat.reduceEqDiff]
  repeat' first|refine zie rfl ?_|refine zc4 rfl ?_|refine zc7 ?_|refine zc8 ?_|refine zc5 ?_|refine zc6 ?_|(simp (maxSteps:=2000000) only [go_sem,Nat.reduceAdd,Nat.reduceMul,Nat.reduceBEq,Nat.reduceLeDiff,Nat.reduceLT,Nat.reduceEqDiff];try rfl)|refine zc3 ?_|(refine And.intro ?_ ?_;focus (intros;simp_all only [Bool.or_eq_false_iff,Bool.or_eq_true,Bool.and_eq_true,and_self,true_and,and_true];done))
  refine zhF (fun _=>zq1 _ _ _ ok6 (Enc.mono (x:=s3) Lh3 ok3)) ?_
  repeat' first|refine zie rfl ?_|refine zc4 rfl ?_|refine zc7 ?_|refine zc8 ?_|refine zc5 ?_|refine zc6 ?_|(simp (maxSteps:=2000000) only [go_sem,Nat.reduceAdd,Nat.reduceMul,Nat.reduceBEq,Nat.reduceLeDiff,Nat.reduceLT,Nat.reduceEqDiff];try rfl)|refine zc3 ?_|(refine And.intro ?_ ?_;focus (intros;simp_all only [Bool.or_eq_false_iff,Bool.or_eq_true,Bool.and_eq_true,and_self,true_and,and_true];done))
  refine zc9 rfl (fun c6=>?_) (fun c6=>?_)
  · simp only [Bool.or_eq_true] at c6
    rcases c6 with ((c6|c6)|c6)|c6
    · (exact absurd (of_decide_eq_true c6) (by omega))
    · (rw [Bool.not_eq_true'] at c6;exact (of_decide_eq_false c6 (by simp only [e1,e2,e3,e4,e5,e6,e7,e8])).elim)
    · (exact absurd (by simp only [e1,e2,e3,e4,e5,e6,e7,e8]) (zjD c6))
    · (exact absurd (by simp only [e1,e2,e3,e4,e5,e6,e7,e8]) (zjD c6))
  refine zc5 ?_
  simp (maxSteps:=2000000) only [go_sem,Nat.reduceAdd,Nat.reduceMul,Nat.reduceBEq,Nat.reduceLeDiff,Nat.reduceLT,Nat.reduceEqDiff]
  refine zie rfl ?_
  simp (maxSteps:=2000000) only [go_sem,Nat.reduceAdd,Nat.reduceMul,Nat.reduceBEq,Nat.reduceLeDiff,Nat.reduceLT,Nat.reduceEqDiff]
  refine zwx [0,0,1] rfl ?_
  simp (maxSteps:=2000000) only [go_sem,Nat.reduceAdd,Nat.reduceMul,Nat.reduceBEq,Nat.reduceLeDiff,Nat.reduceLT,Nat.reduceEqDiff]
  have cn11:Mk.cnt s6≤6 * 1048576:=zwU e6 (zw8 _ _ _)
  refine zlE (x:=⟨Try.prog,W0,h,_⟩) (zw3 s6 (1:Int) _ ok6 ow6 m6.2.2 (by omega)) rfl (fun b hb=>⟨Foot.dom (x:=s6) ow6 b hb,.inl (n6_h b hb)⟩) ?_
  rintro v h11 kp11 ⟨rfl,ok11,ow11⟩
  replace ow9:=(ok_keep (x:=(Mk.put s4 (1:Int))) ok9 ow9 (fun b hb hu=>d6_4 b hu (by first|exact hb|(rw [MkOk.foot] at hb;exact hb))) kp11)
  have ok9':=ow9.1
  clear ok9
  have ok9:=ok9'
  clear ok9'
  replace ow9:=ow9.2
  replace ow10:=(ok_keep (x:=(Mk.put s5 ((1:Int)+(Mk.cnt s4:Nat)))) ok10 ow10 (fun b hb hu=>d6_5 b hu (by first|exact hb|(rw [MkOk.foot] at hb;exact hb))) kp11)
  have ok10':=ow10.1
  clear ok10
  have ok10:=ok10'
  clear ok10'
  replace ow10:=ow10.2
  replace Lh:=zwT Lh n6_h kp11
  replace Lh3:=zwT Lh3 n6_h3 kp11
  simp (maxSteps:=2000000) only [go_sem,Nat.reduceAdd,Nat.reduceMul,Nat.reduceBEq,Nat.reduceLeDiff,Nat.reduceLT,Nat.reduceEqDiff]
  repeat' first|refine zie rfl ?_|refine zc4 rfl ?_|refine zc7 ?_|refine zc8 ?_|refine zc5 ?_|refine zc6 ?_|(simp (maxSteps:=2000000) only [go_sem,Nat.reduceAdd,Nat.reduceMul,Nat.reduceBEq,Nat.reduceLeDiff,Nat.reduceLT,Nat.reduceEqDiff];try rfl)|refine zc3 ?_|(refine And.intro ?_ ?_;focus (intros;simp_all only [Bool.or_eq_false_iff,Bool.or_eq_true,Bool.and_eq_true,and_self,true_and,and_true];done))
  have hh1:=zw5 (Mk.put s6 (1:Int)) 1 h11 ok11 (zl3 (l:=s6.l)) (by have h0:=cn11;have h1:=MkOk.cnt s6 (1:Int);(try rw [h1]);omega)
  rw [zwV] at hh1
  refine zhF (fun _=>hh1) ?_
  repeat' first|refine zie rfl ?_|refine zc4 rfl ?_|refine zc7 ?_|refine zc8 ?_|refine zc5 ?_|refine zc6 ?_|(simp (maxSteps:=2000000) only [go_sem,Nat.reduceAdd,Nat.reduceMul,Nat.reduceBEq,Nat.reduceLeDiff,Nat.reduceLT,Nat.reduceEqDiff];try rfl)|refine zc3 ?_|(refine And.intro ?_ ?_;focus (intros;simp_all only [Bool.or_eq_false_iff,Bool.or_eq_true,Bool.and_eq_true,and_self,true_and,and_true];done))
  refine zc9 rfl (fun c7=>?_) (fun c7=>?_)
  · (exact absurd (of_decide_eq_true c7) (by omega))
  repeat' first|refine zie rfl ?_|refine zc4 rfl ?_|refine zc7 ?_|refine zc8 ?_|refine zc5 ?_|refine zc6 ?_|(simp (maxSteps:=2000000) only [go_sem,Nat.reduceAdd,Nat.reduceMul,Nat.reduceBEq,Nat.reduceLeDiff,Nat.reduceLT,Nat.reduceEqDiff];try rfl)|refine zc3 ?_|(refine And.intro ?_ ?_;focus (intros;simp_all only [Bool.or_eq_false_iff,Bool.or_eq_true,Bool.and_eq_true,and_self,true_and,and_true];done))
  refine zc9 rfl (fun c8=>?_) (fun c8=>?_)
  · (exact absurd (by first|rfl|rw [MkOk.cnt]|(simp only [MkOk.cnt])) (zjD c8))
  repeat' first|refine zie rfl ?_|refine zc4 rfl ?_|refine zc7 ?_|refine zc8 ?_|refine zc5 ?_|refine zc6 ?_|(simp (maxSteps:=2000000) only [go_sem,Nat.reduceAdd,Nat.reduceMul,Nat.reduceBEq,Nat.reduceLeDiff,Nat.reduceLT,Nat.reduceEqDiff];try rfl)|refine zc3 ?_|(refine And.intro ?_ ?_;focus (intros;simp_all only [Bool.or_eq_false_iff,Bool.or_eq_true,Bool.and_eq_true,and_self,true_and,and_true];done))
  refine zkr (zqQ _ _ (Enc.mono (x:=a1) Lh oa1) hb1) rfl ?_
  rintro v h12 le12 ⟨s12,rfl,e12,ok12,m12⟩
  replace ow9:=zmF (x:=(Mk.put s4 (1:Int))) le12 ok9 ow9
  replace ok9:=Enc.mono (x:=(Mk.put s4 (1:Int))) le12 ok9
  replace ow10:=zmF (x:=(Mk.put s5 ((1:Int)+(Mk.cnt s4:Nat)))) le12 ok10 ow10
  replace ok10:=Enc.mono (x:=(Mk.put s5 ((1:Int)+(Mk.cnt s4:Nat)))) le12 ok10
  replace ow11:=zmF (x:=(Mk.put s6 (1:Int))) le12 ok11 ow11
  replace ok11:=Enc.mono (x:=(Mk.put s6 (1:Int))) le12 ok11
  replace Lh:=Hp.le_trans Lh le12
  replace Lh3:=Hp.le_trans Lh3 le12
  repeat' first|refine zie rfl ?_|refine zc4 rfl ?_|refine zc7 ?_|refine zc8 ?_|refine zc5 ?_|refine zc6 ?_|(simp (maxSteps:=2000000) only [go_sem,Nat.reduceAdd,Nat.reduceMul,Nat.reduceBEq,Nat.reduceLeDiff,Nat.reduceLT,Nat.reduceEqDiff];try rfl)|refine zc3 ?_|(refine And.intro ?_ ?_;focus (intros;simp_all only [Bool.or_eq_false_iff,Bool.or_eq_true,Bool.and_eq_true,and_self,true_and,and_true];done))
  refine zkr (zw0 _ _ (Enc.mono (x:=a2) Lh oa2) hb2) rfl ?_
  rintro v h13 le13 ⟨s13,rfl,e13,ok13,m13⟩
  replace ow9:=zmF (x:=(Mk.put s4 (1:Int))) le13 ok9 ow9
  replace ok9:=Enc.mono (x:=(Mk.put s4 (1:Int))) le13 ok9
  replace ow10:=zmF (x:=(Mk.put s5 ((1:Int)+(Mk.cnt s4:Nat)))) le13 ok10 ow10
  replace ok10:=Enc.mono (x:=(Mk.put s5 ((1:Int)+(Mk.cnt s4:Nat)))) le13 ok10
  replace ow11:=zmF (x:=(Mk.put s6 (1:Int))) le13 ok11 ow11
  replace ok11:=Enc.mono (x:=(Mk.put s6 (1:Int))) le13 ok11
  replace ok12:=Enc.mono (x:=s12) le13 ok12
  replace Lh:=Hp.le_trans Lh le13
  replace Lh3:=Hp.le_trans Lh3 le13
  repeat' first|refine zie rfl ?_|refine zc4 rfl ?_|refine zc7 ?_|refine zc8 ?_|refine zc5 ?_|refine zc6 ?_|(simp (maxSteps:=2000000) only [go_sem,Nat.reduceAdd,Nat.reduceMul,Nat.reduceBEq,Nat.reduceLeDiff,Nat.reduceLT,Nat.reduceEqDiff];try rfl)|refine zc3 ?_|(refine And.intro ?_ ?_;focus (intros;simp_all only [Bool.or_eq_false_iff,Bool.or_eq_true,Bool.and_eq_true,and_self,true_and,and_true];done))
  refine zkr (zw7 _ _ _ _ oa0 ok12 ok13) rfl ?_
  rintro v h14 le14 ⟨s14,rfl,e14,ok14,m14⟩
  replace ow9:=zmF (x:=(Mk.put s4 (1:Int))) le14 ok9 ow9
  replace ok9:=Enc.mono (x:=(Mk.put s4 (1:Int))) le14 ok9
  replace ow10:=zmF (x:=(Mk.put s5 ((1:Int)+(Mk.cnt s4:Nat)))) le14 ok10 ow10
  replace ok10:=Enc.mono (x:=(Mk.put s5 ((1:Int)+(Mk.cnt s4:Nat)))) le14 ok10
  replace ow11:=zmF (x:=(Mk.put s6 (1:Int))) le14 ok11 ow11
  replace ok11:=Enc.mono (x:=(Mk.put s6 (1:Int))) le14 ok11
  replace ok12:=Enc.mono (x:=s12) le14 ok12
  replace ok13:=Enc.mono (x:=s13) le14 ok13
  replace Lh:=Hp.le_trans Lh le14
  replace Lh3:=Hp.le_trans Lh3 le14
  repeat' first|refine zie rfl ?_|refine zc4 rfl ?_|refine zc7 ?_|refine zc8 ?_|refine zc5 ?_|refine zc6 ?_|(simp (maxSteps:=2000000) only [go_sem,Nat.reduceAdd,Nat.reduceMul,Nat.reduceBEq,Nat.reduceLeDiff,Nat.reduceLT,Nat.reduceEqDiff];try rfl)|refine zc3 ?_|(refine And.intro ?_ ?_;focus (intros;simp_all only [Bool.or_eq_false_iff,Bool.or_eq_true,Bool.and_eq_true,and_self,true_and,and_true];done))
  refine zhF (fun _=>zq1 _ _ _ ok14 (Enc.mono (x:=s3) Lh3 ok3)) ?_
  repeat' first|refine zie rfl ?_|refine zc4 rfl ?_|refine zc7 ?_|refine zc8 ?_|refine zc5 ?_|refine zc6 ?_|(simp (maxSteps:=2000000) only [go_sem,Nat.reduceAdd,Nat.reduceMul,Nat.reduceBEq,Nat.reduceLeDiff,Nat.reduceLT,Nat.reduceEqDiff];try rfl)|refine zc3 ?_|(refine And.intro ?_ ?_;focus (intros;simp_all only [Bool.or_eq_false_iff,Bool.or_eq_true,Bool.and_eq_true,and_self,true_and,and_true];done))
  refine zc9 rfl (fun c9=>?_) (fun c9=>?_)
  · simp only [Bool.or_eq_true] at c9
    rcases c9 with (c9|c9)|c9
    · (rw [Bool.not_eq_true'] at c9;exact (of_decide_eq_false c9 (by simp only [e1,e2,e3,e4,e5,e6,e7,e8,e12,e13,e14])).elim)
    · (exact absurd (by simp only [e1,e2,e3,e4,e5,e6,e7,e8,e12,e13,e14]) (zjD c9))
    · (exact absurd (by simp only [e1,e2,e3,e4,e5,e6,e7,e8,e12,e13,e14]) (zjD c9))
  repeat' first|refine zie rfl ?_|refine zc4 rfl ?_|refine zc7 ?_|refine zc8 ?_|refine zc5 ?_|refine zc6 ?_|(simp (maxSteps:=2000000) only [go_sem,Nat.reduceAdd,Nat.reduceMul,Nat.reduceBEq,Nat.reduceLeDiff,Nat.reduceLT,Nat.reduceEqDiff];try rfl)|refine zc3 ?_|(refine And.intro ?_ ?_;focus (intros;simp_all only [Bool.or_eq_false_iff,Bool.or_eq_true,Bool.and_eq_true,and_self,true_and,and_true];done))
  have hh2:=zw5 (Mk.put s6 (1:Int)) 1 h14 ok11 (zl3 (l:=s6.l)) (by have h0:=cn11;have h1:=MkOk.cnt s6 (1:Int);(try rw [h1]);omega)
  rw [zwV] at hh2
  refine zhF (fun _=>hh2) ?_
  repeat' first|refine zie rfl ?_|refine zc4 rfl ?_|refine zc7 ?_|refine zc8 ?_|refine zc5 ?_|refine zc6 ?_|(simp (maxSteps:=2000000) only [go_sem,Nat.reduceAdd,Nat.reduceMul,Nat.reduceBEq,Nat.reduceLeDiff,Nat.reduceLT,Nat.reduceEqDiff];try rfl)|refine zc3 ?_|(refine And.intro ?_ ?_;focus (intros;simp_all only [Bool.or_eq_false_iff,Bool.or_eq_true,Bool.and_eq_true,and_self,true_and,and_true];done))
  refine zc9 rfl (fun c10=>?_) (fun c10=>?_)
  · (exact absurd (of_decide_eq_true c10) (by omega))
  repeat' first|refine zie rfl ?_|refine zc4 rfl ?_|refine zc7 ?_|refine zc8 ?_|refine zc5 ?_|refine zc6 ?_|(simp (maxSteps:=2000000) only [go_sem,Nat.reduceAdd,Nat.reduceMul,Nat.reduceBEq,Nat.reduceLeDiff,Nat.reduceLT,Nat.reduceEqDiff];try rfl)|refine zc3 ?_|(refine And.intro ?_ ?_;focus (intros;simp_all only [Bool.or_eq_false_iff,Bool.or_eq_true,Bool.and_eq_true,and_self,true_and,and_true];done))
  refine zc9 rfl (fun c11=>?_) (fun c11=>?_)
  · (exact absurd (by first|rfl|rw [MkOk.cnt]|(simp only [MkOk.cnt])) (zjD c11))
  repeat' first|refine zie rfl ?_|refine zc4 rfl ?_|refine zc7 ?_|refine zc8 ?_|refine zc5 ?_|refine zc6 ?_|(simp (maxSteps:=2000000) only [go_sem,Nat.reduceAdd,Nat.reduceMul,Nat.reduceBEq,Nat.reduceLeDiff,Nat.reduceLT,Nat.reduceEqDiff];try rfl)|refine zc3 ?_|(refine And.intro ?_ ?_;focus (intros;simp_all only [Bool.or_eq_false_iff,Bool.or_eq_true,Bool.and_eq_true,and_self,true_and,and_true];done))
set_option maxRecDepth 100000 in
theorem zxc (os:Os) (started:os.Started) (H:Type) (enc:TypeId × Value→H) :
    ReturnsInHanded {} Try.checked os 3 .any (Rows.fnExactLeastCoverSpec.pre6 enc Try.prog Try.f3 Rows.fnExactLeastCoverRow.domain false) (Rows.fnExactLeastCoverSpec.post enc Try.prog Try.f3 false true false false):=by
  refine returnsInHanded_of_change (C:=Try.checked) Try.own started (by kernel_rfl) Try.func3
    (ChangeSpec.witness6 (enc:=enc) (C:=Try.checked) false ⟨#[],#[.int .i64 0,.slice none 0 0,.slice none 0 0],[]⟩ 8 (by kernel_rfl) (by kernel_rfl) (by kernel_rfl) (by kernel_rfl)) ?_
  intro W base args ds gs before hval0 hW hcnd _
  have hval:∀ (j:Nat) t v,Try.f3.params[j]?=some t→args[j]?=some v→Value.okWide Try.prog W .any base t v:=hval0
  have hW':=hW
  obtain ⟨p,q,hA0,hV,rfl,hfz,hnd⟩:=hW
  have hA:DataW.TrodAll enc Try.prog W 0 (fun _=>true) true Try.f3.params.toList args.toList ds p:=hA0
  rw [Try.params3] at hA hval
  obtain ⟨args⟩:=args
  obtain ⟨rfl,rfl⟩:=trodVars_none hV
  have hA9:=hA
  obtain ⟨v0,vs0,d0,ds0,p0,q0,ev0,rfl,rfl,k0,r0⟩:=trodAll_cons hA
  obtain ⟨v1,vs1,d1,ds1,p1,q1,ev1,rfl,rfl,k1,r1⟩:=trodAll_cons r0
  obtain ⟨v2,vs2,d2,ds2,p2,q2,ev2,rfl,rfl,k2,r2⟩:=trodAll_cons r1
  obtain ⟨ev3,rfl,rfl⟩:=trodAll_nil r2
  simp only at ev0 ev1 ev2 ev3
  subst ev3
  subst ev2
  subst ev1
  subst ev0
  obtain ⟨a0,rfl,oa0⟩:=zwu Try.underlying3 (hval 0 _ v0 rfl rfl) k0
  obtain ⟨a1,rfl,oa1⟩:=zlA Try.underlying22 zw9 (hval 1 _ v1 rfl rfl) k1
  obtain ⟨a2,rfl,oa2⟩:=zlA Try.underlying23 zxb (hval 2 _ v2 rfl rfl) k2
  simp only [List.append_nil] at hW' hA9
  have hct:=FnExactLeastCover_fn a0 a1 a2 (vw W) oa0 oa1 oa2
  unfold Ct at hct
  refine (hct.2 W (zks W)).mono fun e W' ⟨v,h',he,hv,hb,_⟩=>?_
  subst he hv
  have hlt:∀ x ∈ (p0 ++ (p1 ++ (p2))),x.block < W.heap.size:=fun x hx=>hW'.lt x hx
  exact ⟨_,rfl,zky hW' hb (fun _=>rfl) (fun _ _ _=>trodAll_mk1 (shut_bool Try.underlying4 true))
    (fun sp hsp=>zlC Try.laidOut hb (by kernel_rfl) hlt hsp hA9)⟩
theorem FnExactLeastCover_holds:Rows.FnExactLeastCoverSaid :=
  OpenClaim.holds_of_wide 3 Try.f3 rfl rfl rfl rfl rfl rfl rfl ⟨rfl,rfl,rfl,rfl,rfl⟩ rfl rfl rfl rfl rfl (by kernel_rfl) Try.func3 (by kernel_rfl)
    (of_decide_eq_true (by kernel_rfl)) (by unfold Func.isWrapper;rw [if_neg (of_decide_eq_false (by kernel_rfl))];exact ⟨rfl,rfl⟩)
    (fun os started H enc _=>zxc os started H enc)
end Go.Proofs.Ytjiggadgmmjnhaa
