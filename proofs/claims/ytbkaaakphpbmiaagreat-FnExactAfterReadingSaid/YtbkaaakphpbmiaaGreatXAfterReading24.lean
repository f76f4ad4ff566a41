/- What functions of the given program compute, as contracts. -/
import Derived.Test.YtbkaaakphpbmiaaGreatSAfterReadingx3
import Derived.Test.YtbkaaakphpbmiaaGreatXAfterReading19
import Derived.Test.YtbkaaakphpbmiaaGreatXAfterReading23
import Derived.Test.YtbkaaakphpbmiaaGreatXAfterReading5
set_option linter.unusedVariables false
set_option linter.unusedSimpArgs false
set_option maxRecDepth 4000
open Nat renaming reduceAdd → jq, reduceMul → jj, reduceBEq → jy, reduceLeDiff → jv, reduceLT → jk, reduceEqDiff → jx
open Bool renaming or_eq_false_iff → jp, or_eq_true → jQ, and_eq_true → jJ
open Int renaming toNat_natCast → jW, natCast_nonneg → jY
open Go.Proofs.Tryz renaming prog → jV
namespace Go.Proofs.YtbkaaakphpbmiaaGreat
open Go Go.SL
set_option maxHeartbeats 1000000
set_option maxRecDepth 100000 in
theorem z19 (c:DHarbour) (h:Hp) (hc:Enc.ok h c) (hz:Lens c):Ct jV 112 [c.v] h fun v h'=>∃ d:DHarbour,v=d.v∧Con.con d=Con.con c∧Enc.ok h' d∧h.le h':=by
 obtain ⟨⟨o_tide,o_surges⟩,⟨o_points,o_segments⟩,o_fleet,o_regime,⟨o1,o2,o3,o_moves⟩⟩:=hc
 obtain ⟨hpa,hsu,hpo,hse,hfl,hmo⟩:=hz
 refine zdn (fun A W=>by simp) Tryz.func112 rfl rfl (by simp) fun W0=>?_
 refine Wk ?_
 refine zoc (ι:=(DTide × Sl DSurge) × Hp) (fun i=>⟨[(1,true,.c (.p 0 0)),(2,true,.c (.p 1 0))],[(0,.box 62 [.v (.int .i64 i.1.1.mean),.v i.1.1.parts.val,.v i.1.2.val,.v c.chart.points.val,.v c.chart.segments.val,.v c.fleet.val,.v (.int .i64 c.regime.gap),.v (.bool c.regime.noMeet),.v (.int .i64 c.crew.tugs),.v (.int .i64 c.crew.pilots),.v (.int .i64 c.crew.rest),.v c.crew.moves.val]),(1,.box 62 [.v (.int .i64 0),.v (.slice none 0 0),.v (.slice none 0 0),.v (.slice none 0 0),.v (.slice none 0 0),.v (.slice none 0 0),.v (.int .i64 0),.v (.bool false),.v (.int .i64 0),.v (.int .i64 0),.v (.int .i64 0),.v (.slice none 0 0)])],i.2,2⟩)
  (fun i=>h.le i.2∧Con.con i.1.1=Con.con c.forecast.tide∧Enc.ok i.2 i.1.1∧i.1.2.l=c.forecast.surges.l∧i.1.2.Ok i.2) ?_ ?_
 ·refine znv rfl ?_
  refine U_t [0,5,1,6,2,7] rfl ?_
  refine Evs ?_
  refine U_m 3 [4] ⟨?_,?_,trivial⟩
  ·refine U_b 3 0 [7,6,5] rfl rfl ?_
   refine Evs ?_
   refine zkj (z15 c.forecast.tide _ o_tide hpa) rfl ?_
   rintro v h1 le1 ⟨t,rfl,et,okt,_⟩
   have hallS:h1.ldL c.forecast.surges.val 3=some (c.forecast.surges.l.flatMap Enc.enc):=(o_surges.mono le1).all (by decide)
   try simp only [go_sem,jq,jj,jy,jv,jk,jx]
   refine U_1 4 0 [7,6,5] rfl rfl ?_
   simp only [go_sem,jq,jj,jy,jv,jk,jx,hallS,Option.isSome_some,Option.getD_some,true_and,Nat.zero_add,List.nil_append]
   refine U_1 8 0 [] rfl rfl ?_
   simp only [go_sem,jq,jj,jy,jv,jk,jx,hallS,Option.isSome_some,Option.getD_some,true_and,Nat.zero_add,List.nil_append]
   refine ⟨fun u hu=>by obtain ⟨x,_,hx⟩:=List.mem_flatMap.1 hu;exact Enc.one x u hx,by simp only [maxLen];omega,by omega,?_⟩
   try simp only [go_sem,jq,jj,jy,jv,jk,jx]
   (first|refine zn9 3 c.forecast.surges.l rfl rfl rfl rfl fun s_0 h_0 e_0 R_0 f_0 l_0 k_0=>?_|refine zn9 2 c.forecast.surges.l rfl rfl rfl rfl fun s_0 h_0 e_0 R_0 f_0 l_0 k_0=>?_)
   try simp only [go_sem,jq,jj,jy,jv,jk,jx]
   refine U_1 9 0 [] rfl rfl ?_
   simp only [go_sem,jq,jj,jy,jv,jk,jx,hallS,Option.isSome_some,Option.getD_some,true_and,Nat.zero_add,List.nil_append]
   refine U_t [10] rfl ?_
   simp only [go_sem,jq,jj,jy,jv,jk,jx,hallS,Option.isSome_some,Option.getD_some,true_and,Nat.zero_add,List.nil_append]
   refine U_1 11 0 [] rfl rfl ?_
   simp only [go_sem,jq,jj,jy,jv,jk,jx,hallS,Option.isSome_some,Option.getD_some,true_and,Nat.zero_add,List.nil_append]
   refine U_d ?_
   refine ⟨((t,s_0),h_0),[0,1],⟨Hp.le_trans le1 l_0,et,Enc.mono l_0 okt,e_0,R_0.ok (by decide) fun x hx=>by rw [e_0] at hx;exact Enc.mono (Hp.le_trans le1 l_0) (o_surges.2.2.2.1 x hx)⟩,?_⟩
   exact Gk
  ·refine U_b 4 0 [7,2,6,1,5,0] rfl rfl ?_
   refine Evs ?_
   refine U_1 3 0 [7,6,5] rfl rfl ?_
   refine Evs ?_
   refine zkj (z15 c.forecast.tide _ o_tide hpa) rfl ?_
   rintro v h1 le1 ⟨t,rfl,et,okt,_⟩
   have hallS:h1.ldL c.forecast.surges.val 3=some (c.forecast.surges.l.flatMap Enc.enc):=(o_surges.mono le1).all (by decide)
   try simp only [go_sem,jq,jj,jy,jv,jk,jx]
   refine U_1 8 0 [] rfl rfl ?_
   simp only [go_sem,jq,jj,jy,jv,jk,jx,hallS,Option.isSome_some,Option.getD_some,true_and,Nat.zero_add,List.nil_append]
   refine ⟨fun u hu=>by obtain ⟨x,_,hx⟩:=List.mem_flatMap.1 hu;exact Enc.one x u hx,by simp only [maxLen];omega,by omega,?_⟩
   try simp only [go_sem,jq,jj,jy,jv,jk,jx]
   (first|refine zn9 3 c.forecast.surges.l rfl rfl rfl rfl fun s_0 h_0 e_0 R_0 f_0 l_0 k_0=>?_|refine zn9 2 c.forecast.surges.l rfl rfl rfl rfl fun s_0 h_0 e_0 R_0 f_0 l_0 k_0=>?_)
   try simp only [go_sem,jq,jj,jy,jv,jk,jx]
   refine U_1 9 0 [] rfl rfl ?_
   simp only [go_sem,jq,jj,jy,jv,jk,jx,hallS,Option.isSome_some,Option.getD_some,true_and,Nat.zero_add,List.nil_append]
   refine U_t [10] rfl ?_
   simp only [go_sem,jq,jj,jy,jv,jk,jx,hallS,Option.isSome_some,Option.getD_some,true_and,Nat.zero_add,List.nil_append]
   refine U_1 11 0 [] rfl rfl ?_
   simp only [go_sem,jq,jj,jy,jv,jk,jx,hallS,Option.isSome_some,Option.getD_some,true_and,Nat.zero_add,List.nil_append]
   refine U_d ?_
   refine ⟨((t,s_0),h_0),[0,1],⟨Hp.le_trans le1 l_0,et,Enc.mono l_0 okt,e_0,R_0.ok (by decide) fun x hx=>by rw [e_0] at hx;exact Enc.mono (Hp.le_trans le1 l_0) (o_surges.2.2.2.1 x hx)⟩,?_⟩
   exact Gk
 rintro ⟨⟨t,s0⟩,h2⟩ ⟨le2,et,okt,e0,ok0⟩
 simp only at le2 et okt e0 ok0
 have o_points2:=o_points.mono le2
 have o_segments2:=o_segments.mono le2
 have hallP:h2.ldL c.chart.points.val 2=some (c.chart.points.l.flatMap Enc.enc):=o_points2.all (by decide)
 refine zc3 ?_
 refine zoc (ι:=(Sl DPoint × Sl DSegment) × Hp) (fun i=>⟨[(1,true,.c (.p 0 0)),(2,true,.c (.p 1 0))],[(0,.box 62 [.v (.int .i64 t.mean),.v t.parts.val,.v s0.val,.v i.1.1.val,.v i.1.2.val,.v c.fleet.val,.v (.int .i64 c.regime.gap),.v (.bool c.regime.noMeet),.v (.int .i64 c.crew.tugs),.v (.int .i64 c.crew.pilots),.v (.int .i64 c.crew.rest),.v c.crew.moves.val]),(1,.box 62 [.v (.int .i64 0),.v (.slice none 0 0),.v (.slice none 0 0),.v (.slice none 0 0),.v (.slice none 0 0),.v (.slice none 0 0),.v (.int .i64 0),.v (.bool false),.v (.int .i64 0),.v (.int .i64 0),.v (.int .i64 0),.v (.slice none 0 0)])],i.2,2⟩)
  (fun i=>h2.le i.2∧i.1.1.l=c.chart.points.l∧i.1.1.Ok i.2∧i.1.2.l=c.chart.segments.l∧i.1.2.Ok i.2) ?_ ?_
 ·refine znv rfl ?_
  refine U_t [1,6,2,7,3,8] rfl ?_
  simp only [go_sem,jq,jj,jy,jv,jk,jx,hallP,Option.isSome_some,Option.getD_some,true_and,Nat.zero_add,List.nil_append]
  refine U_m 0 [5] ⟨?_,?_,trivial⟩
  ·refine U_b 0 0 [8,3,7,2,6,1] rfl rfl ?_
   simp only [go_sem,jq,jj,jy,jv,jk,jx,hallP,Option.isSome_some,Option.getD_some,true_and,Nat.zero_add,List.nil_append]
   refine U_m 4 [5] ⟨?_,?_,trivial⟩
   ·refine U_b 4 0 [8,7,6] rfl rfl ?_
    simp only [go_sem,jq,jj,jy,jv,jk,jx,hallP,Option.isSome_some,Option.getD_some,true_and,Nat.zero_add,List.nil_append]
    refine ⟨fun u hu=>by obtain ⟨x,_,hx⟩:=List.mem_flatMap.1 hu;exact Enc.one x u hx,by simp only [maxLen];omega,by omega,?_⟩
    try simp only [go_sem,jq,jj,jy,jv,jk,jx]
    (first|refine zn9 3 c.chart.points.l rfl rfl rfl rfl fun s_1 h_1 e_1 R_1 f_1 l_1 k_1=>?_|refine zn9 4 c.chart.points.l rfl rfl rfl rfl fun s_1 h_1 e_1 R_1 f_1 l_1 k_1=>?_|refine zn9 2 c.chart.points.l rfl rfl rfl rfl fun s_1 h_1 e_1 R_1 f_1 l_1 k_1=>?_)
    have hallG:h_1.ldL c.chart.segments.val 5=some (c.chart.segments.l.flatMap Enc.enc):=(o_segments2.mono l_1).all (by decide)
    try simp only [go_sem,jq,jj,jy,jv,jk,jx]
    refine U_1 5 0 [8,7,6] rfl rfl ?_
    simp only [go_sem,jq,jj,jy,jv,jk,jx,hallG,Option.isSome_some,Option.getD_some,true_and,Nat.zero_add,List.nil_append]
    refine U_1 9 0 [] rfl rfl ?_
    simp only [go_sem,jq,jj,jy,jv,jk,jx,hallG,Option.isSome_some,Option.getD_some,true_and,Nat.zero_add,List.nil_append]
    refine ⟨fun u hu=>by obtain ⟨x,_,hx⟩:=List.mem_flatMap.1 hu;exact Enc.one x u hx,by simp only [maxLen];omega,by omega,?_⟩
    try simp only [go_sem,jq,jj,jy,jv,jk,jx]
    (first|refine zn9 5 c.chart.segments.l rfl rfl rfl rfl fun s_2 h_2 e_2 R_2 f_2 l_2 k_2=>?_|refine zn9 4 c.chart.segments.l rfl rfl rfl rfl fun s_2 h_2 e_2 R_2 f_2 l_2 k_2=>?_|refine zn9 3 c.chart.segments.l rfl rfl rfl rfl fun s_2 h_2 e_2 R_2 f_2 l_2 k_2=>?_)
    try simp only [go_sem,jq,jj,jy,jv,jk,jx]
    refine U_1 10 0 [] rfl rfl ?_
    simp only [go_sem,jq,jj,jy,jv,jk,jx,hallG,Option.isSome_some,Option.getD_some,true_and,Nat.zero_add,List.nil_append]
    refine U_t [11] rfl ?_
    simp only [go_sem,jq,jj,jy,jv,jk,jx,hallG,Option.isSome_some,Option.getD_some,true_and,Nat.zero_add,List.nil_append]
    refine U_1 12 0 [] rfl rfl ?_
    simp only [go_sem,jq,jj,jy,jv,jk,jx,hallG,Option.isSome_some,Option.getD_some,true_and,Nat.zero_add,List.nil_append]
    refine U_d ?_
    refine ⟨((s_1,s_2),h_2),[0,1],⟨Hp.le_trans l_1 l_2,e_1,(R_1.ok (by decide) fun x hx=>by rw [e_1] at hx;exact Enc.mono l_1 (o_points2.2.2.2.1 x hx)).mono l_2,e_2,R_2.ok (by decide) fun x hx=>by rw [e_2] at hx;exact Enc.mono (Hp.le_trans l_1 l_2) (o_segments2.2.2.2.1 x hx)⟩,?_⟩
    exact Gk
   ·refine U_b 5 0 [8,3,7,2,6,1] rfl rfl ?_
    simp only [go_sem,jq,jj,jy,jv,jk,jx,hallP,Option.isSome_some,Option.getD_some,true_and,Nat.zero_add,List.nil_append]
    refine U_1 4 0 [8,7,6] rfl rfl ?_
    simp only [go_sem,jq,jj,jy,jv,jk,jx,hallP,Option.isSome_some,Option.getD_some,true_and,Nat.zero_add,List.nil_append]
    refine ⟨fun u hu=>by obtain ⟨x,_,hx⟩:=List.mem_flatMap.1 hu;exact Enc.one x u hx,by simp only [maxLen];omega,by omega,?_⟩
    try simp only [go_sem,jq,jj,jy,jv,jk,jx]
    (first|refine zn9 3 c.chart.points.l rfl rfl rfl rfl fun s_1 h_1 e_1 R_1 f_1 l_1 k_1=>?_|refine zn9 4 c.chart.points.l rfl rfl rfl rfl fun s_1 h_1 e_1 R_1 f_1 l_1 k_1=>?_|refine zn9 2 c.chart.points.l rfl rfl rfl rfl fun s_1 h_1 e_1 R_1 f_1 l_1 k_1=>?_)
    have hallG:h_1.ldL c.chart.segments.val 5=some (c.chart.segments.l.flatMap Enc.enc):=(o_segments2.mono l_1).all (by decide)
    try simp only [go_sem,jq,jj,jy,jv,jk,jx]
    refine U_1 9 0 [] rfl rfl ?_
    simp only [go_sem,jq,jj,jy,jv,jk,jx,hallG,Option.isSome_some,Option.getD_some,true_and,Nat.zero_add,List.nil_append]
    refine ⟨fun u hu=>by obtain ⟨x,_,hx⟩:=List.mem_flatMap.1 hu;exact Enc.one x u hx,by simp only [maxLen];omega,by omega,?_⟩
    try simp only [go_sem,jq,jj,jy,jv,jk,jx]
    (first|refine zn9 5 c.chart.segments.l rfl rfl rfl rfl fun s_2 h_2 e_2 R_2 f_2 l_2 k_2=>?_|refine zn9 4 c.chart.segments.l rfl rfl rfl rfl fun s_2 h_2 e_2 R_2 f_2 l_2 k_2=>?_|refine zn9 3 c.chart.segments.l rfl rfl rfl rfl fun s_2 h_2 e_2 R_2 f_2 l_2 k_2=>?_)
    try simp only [go_sem,jq,jj,jy,jv,jk,jx]
    refine U_1 10 0 [] rfl rfl ?_
    simp only [go_sem,jq,jj,jy,jv,jk,jx,hallG,Option.isSome_some,Option.getD_some,true_and,Nat.zero_add,List.nil_append]
    refine U_t [11] rfl ?_
    simp only [go_sem,jq,jj,jy,jv,jk,jx,hallG,Option.isSome_some,Option.getD_some,true_and,Nat.zero_add,List.nil_append]
    refine U_1 12 0 [] rfl rfl ?_
    simp only [go_sem,jq,jj,jy,jv,jk,jx,hallG,Option.isSome_some,Option.getD_some,true_and,Nat.zero_add,List.nil_append]
    refine U_d ?_
    refine ⟨((s_1,s_2),h_2),[0,1],⟨Hp.le_trans l_1 l_2,e_1,(R_1.ok (by decide) fun x hx=>by rw [e_1] at hx;exact Enc.mono l_1 (o_points2.2.2.2.1 x hx)).mono l_2,e_2,R_2.ok (by decide) fun x hx=>by rw [e_2] at hx;exact Enc.mono (Hp.le_trans l_1 l_2) (o_segments2.2.2.2.1 x hx)⟩,?_⟩
    exact Gk
  ·refine U_b 5 0 [8,3,7,2,6,1] rfl rfl ?_
   simp only [go_sem,jq,jj,jy,jv,jk,jx,hallP,Option.isSome_some,Option.getD_some,true_and,Nat.zero_add,List.nil_append]
   refine U_1 0 0 [8,3,7,2,6,1] rfl rfl ?_
   simp only [go_sem,jq,jj,jy,jv,jk,jx,hallP,Option.isSome_some,Option.getD_some,true_and,Nat.zero_add,List.nil_append]
   refine U_1 4 0 [8,7,6] rfl rfl ?_
   simp only [go_sem,jq,jj,jy,jv,jk,jx,hallP,Option.isSome_some,Option.getD_some,true_and,Nat.zero_add,List.nil_append]
   refine ⟨fun u hu=>by obtain ⟨x,_,hx⟩:=List.mem_flatMap.1 hu;exact Enc.one x u hx,by simp only [maxLen];omega,by omega,?_⟩
   try simp only [go_sem,jq,jj,jy,jv,jk,jx]
   (first|refine zn9 3 c.chart.points.l rfl rfl rfl rfl fun s_1 h_1 e_1 R_1 f_1 l_1 k_1=>?_|refine zn9 4 c.chart.points.l rfl rfl rfl rfl fun s_1 h_1 e_1 R_1 f_1 l_1 k_1=>?_|refine zn9 2 c.chart.points.l rfl rfl rfl rfl fun s_1 h_1 e_1 R_1 f_1 l_1 k_1=>?_)
   have hallG:h_1.ldL c.chart.segments.val 5=some (c.chart.segments.l.flatMap Enc.enc):=(o_segments2.mono l_1).all (by decide)
   try simp only [go_sem,jq,jj,jy,jv,jk,jx]
   refine U_1 9 0 [] rfl rfl ?_
   simp only [go_sem,jq,jj,jy,jv,jk,jx,hallG,Option.isSome_some,Option.getD_some,true_and,Nat.zero_add,List.nil_append]
   refine ⟨fun u hu=>by obtain ⟨x,_,hx⟩:=List.mem_flatMap.1 hu;exact Enc.one x u hx,by simp only [maxLen];omega,by omega,?_⟩
   try simp only [go_sem,jq,jj,jy,jv,jk,jx]
   (first|refine zn9 5 c.chart.segments.l rfl rfl rfl rfl fun s_2 h_2 e_2 R_2 f_2 l_2 k_2=>?_|refine zn9 4 c.chart.segments.l rfl rfl rfl rfl fun s_2 h_2 e_2 R_2 f_2 l_2 k_2=>?_|refine zn9 3 c.chart.segments.l rfl rfl rfl rfl fun s_2 h_2 e_2 R_2 f_2 l_2 k_2=>?_)
   try simp only [go_sem,jq,jj,jy,jv,jk,jx]
   refine U_1 10 0 [] rfl rfl ?_
   simp only [go_sem,jq,jj,jy,jv,jk,jx,hallG,Option.isSome_some,Option.getD_some,true_and,Nat.zero_add,List.nil_append]
   refine U_t [11] rfl ?_
   simp only [go_sem,jq,jj,jy,jv,jk,jx,hallG,Option.isSome_some,Option.getD_some,true_and,Nat.zero_add,List.nil_append]
   refine U_1 12 0 [] rfl rfl ?_
   simp only [go_sem,jq,jj,jy,jv,jk,jx,hallG,Option.isSome_some,Option.getD_some,true_and,Nat.zero_add,List.nil_append]
   refine U_d ?_
   refine ⟨((s_1,s_2),h_2),[0,1],⟨Hp.le_trans l_1 l_2,e_1,(R_1.ok (by decide) fun x hx=>by rw [e_1] at hx;exact Enc.mono l_1 (o_points2.2.2.2.1 x hx)).mono l_2,e_2,R_2.ok (by decide) fun x hx=>by rw [e_2] at hx;exact Enc.mono (Hp.le_trans l_1 l_2) (o_segments2.2.2.2.1 x hx)⟩,?_⟩
   exact Gk
 rintro ⟨⟨s1,s2⟩,h3⟩ ⟨le3,e1,ok1,e2,ok2⟩
 simp only at le3 e1 ok1 e2 ok2
 have le03:=Hp.le_trans le2 le3
 have hallF:h3.ldL c.fleet.val 6=some (c.fleet.l.flatMap Enc.enc):=(o_fleet.mono le03).all (by decide)
 repeat' first|refine zc8 ?_|(refine zc5 ?_;simp only [go_sem,jq,jj,jy,jv,jk,jx])|refine zc3 ?_
 first|refine zmR [0,0,0,2,0,0] rfl ?_|refine zmQ [0,0,0,2,0,0] rfl ?_|(refine zc3 ?_;first|refine zmR [0,0,0,2,0,0] rfl ?_|refine zmQ [0,0,0,2,0,0] rfl ?_)
 simp only [go_sem,jq,jj,jy,jv,jk,jx,hallF,Option.isSome_some,Option.getD_some,true_and,Nat.zero_add,List.nil_append]
 refine ⟨fun u hu=>by obtain ⟨x,_,hx⟩:=List.mem_flatMap.1 hu;exact Enc.one x u hx,by simp only [maxLen];omega,by omega,fun ad4 cap4 h4 P4=>?_⟩
 have P4r:Pub h3 157 (Enc.size DShip) c.fleet.l.length (c.fleet.l.flatMap Enc.enc) ad4 cap4 h4:=P4
 obtain ⟨R4,f4,_⟩:=P4r.row
 have le4:h3.le h4:=P4r.le
 have hv4:(Sl.mk ad4 cap4 c.fleet.l).val=.slice ad4 c.fleet.l.length cap4:=rfl
 have hallM:h4.ldL c.crew.moves.val 1=some (c.crew.moves.l.flatMap Enc.enc):=(o_moves.mono (Hp.le_trans le03 le4)).all (by decide)
 try simp only [go_sem,jq,jj,jy,jv,jk,jx]
 repeat' first|refine zc8 ?_|(refine zc5 ?_;simp only [go_sem,jq,jj,jy,jv,jk,jx])|refine zc3 ?_
 first|refine zmR [0,0,0,0,2,0,0,0] rfl ?_|refine zmQ [0,0,0,0,2,0,0,0] rfl ?_|(refine zc3 ?_;first|refine zmR [0,0,0,0,2,0,0,0] rfl ?_|refine zmQ [0,0,0,0,2,0,0,0] rfl ?_)
 simp only [go_sem,jq,jj,jy,jv,jk,jx,hallM,Option.isSome_some,Option.getD_some,true_and,Nat.zero_add,List.nil_append]
 refine ⟨fun u hu=>by obtain ⟨x,_,hx⟩:=List.mem_flatMap.1 hu;exact Enc.one x u hx,by simp only [maxLen];omega,by omega,fun ad5 cap5 h5 P5=>?_⟩
 have P5r:Pub h4 3 (Enc.size Int) c.crew.moves.l.length (c.crew.moves.l.flatMap Enc.enc) ad5 cap5 h5:=P5
 obtain ⟨R5,f5,_⟩:=P5r.row
 have le5:h4.le h5:=P5r.le
 try simp only [go_sem,jq,jj,jy,jv,jk,jx]
 refine Wk ?_
 have le35:=Hp.le_trans le4 le5
 have le05:=Hp.le_trans le03 le35
 have ok4:(Sl.mk ad4 cap4 c.fleet.l).Ok h5:=(R4.ok (by decide) fun x hx=>Enc.mono (Hp.le_trans le03 le4) (o_fleet.2.2.2.1 x hx)).mono le5
 have ok5:(Sl.mk ad5 cap5 c.crew.moves.l).Ok h5:=R5.ok (by decide) fun x hx=>o_moves.2.2.2.1 x hx
 exact ⟨⟨⟨t,s0⟩,⟨s1,s2⟩,⟨ad4,cap4,c.fleet.l⟩,c.regime,⟨c.crew.tugs,c.crew.pilots,c.crew.rest,⟨ad5,cap5,c.crew.moves.l⟩⟩⟩,rfl,by rw [zk3,zk3,zkO,zkO,zkW,zkW,zkE,zkE,et];simp only [zkq,e0,e1,e2],
  ⟨⟨Enc.mono (Hp.le_trans le3 le35) okt,ok0.mono (Hp.le_trans le3 le35)⟩,⟨ok1.mono le35,ok2.mono le35⟩,ok4,o_regime,⟨o1,o2,o3,ok5⟩⟩,le05⟩
set_option maxRecDepth 100000 in
theorem z2a (x:DHarbour) (m lo hi:Int) (h:Hp) (hx:Enc.ok h x) (hm:I64 m) (hlo:I64 lo) (hhi:I64 hi):Ct jV 44 [x.v,.int .i64 m,.int .i64 lo,.int .i64 hi] h fun v h'=>∃ y:DHarbour,v=.tuple #[y.v,.bool (zEI (Con.con x) m lo hi).isSome]∧Con.con y=(zEI (Con.con x) m lo hi).getD zEJ∧Enc.ok h' y∧h.le h':=by
 refine zdn (fun A W=>by simp) Tryz.func44 rfl rfl (by simp) fun W0=>?_
 repeat' first|refine Wa ?_|refine zhF (fun _=>zZf x _ hx) ?_|(simp only [go_sem,jq,jj,jy,jv,jk,jx];try rfl)|refine Wb ?_|fail
 refine zc9 rfl (fun hz=>?_) (fun hz=>?_)
 ·have hk:¬ zvo (Con.con x)=true:=by simpa using hz
  have hF:zEI (Con.con x) m lo hi=none:=by
   rw [zEI]
   split
   ·exact if_neg hk
   ·rfl
  refine Wk ?_
  first|exact ⟨⟨⟨⟨0,⟨none,0,[]⟩⟩,⟨none,0,[]⟩⟩,⟨⟨none,0,[]⟩,⟨none,0,[]⟩⟩,⟨none,0,[]⟩,⟨0,false⟩,⟨0,0,0,⟨none,0,[]⟩⟩⟩,by rw [hF];rfl,by rw [hF];rfl,zEM,Hp.le_refl _⟩|exact ⟨⟨⟨⟨0,⟨none,0,[]⟩⟩,⟨none,0,[]⟩⟩,⟨⟨none,0,[]⟩,⟨none,0,[]⟩⟩,⟨none,0,[]⟩,⟨0,false⟩,⟨0,0,0,⟨none,0,[]⟩⟩⟩,by rw [hF];rfl,by rw [hF];rfl,zEM⟩
 have hk:zvo (Con.con x)=true:=by simpa using hz
 refine Wk ?_
 refine zkj (z18 x.forecast m lo hi _ hx.1 hm hlo hhi) rfl ?_
 rintro v h1 le1 ⟨g,rfl,eg,okg,_⟩
 have okx1:=Enc.mono (x:=x) le1 hx
 cases ho:zDU (Con.con x.forecast) m lo hi with
 | none =>
  have hF:zEI (Con.con x) m lo hi=none:=by rw [zEI,show (Con.con x:PHarbour).forecast=Con.con x.forecast from rfl,ho]
  simp only [go_sem,jq,jj,jy,jv,jk,jx,Option.isSome_none]
  refine Wk ?_
  refine zc9 rfl (fun hz=>?_) (fun hz=>?_)
  case refine_2=>cases hz
  refine Wk ?_
  exact ⟨⟨⟨⟨0,⟨none,0,[]⟩⟩,⟨none,0,[]⟩⟩,⟨⟨none,0,[]⟩,⟨none,0,[]⟩⟩,⟨none,0,[]⟩,⟨0,false⟩,⟨0,0,0,⟨none,0,[]⟩⟩⟩,by rw [hF];rfl,by rw [hF];rfl,zEM,le1⟩
 | some g' =>
  rw [ho] at eg
  have eg:Con.con g=g':=eg
  have hF:zEI (Con.con x) m lo hi=some { (Con.con x:PHarbour) with forecast:=g' }:=by
   rw [zEI,show (Con.con x:PHarbour).forecast=Con.con x.forecast from rfl,ho];exact if_pos hk
  obtain ⟨_,_,hgo,_⟩:=zEa ho
  have hk2:zvo (Con.con ({ x with forecast:=g }:DHarbour))=true:=by
   have h9:=hk
   rw [zvy] at h9 ⊢
   simp only [jJ] at h9 ⊢
   refine ⟨⟨⟨⟨?_,h9.1.1.1.2⟩,h9.1.1.2⟩,h9.1.2⟩,h9.2⟩
   show zuY (Con.con g)=true
   rw [eg];exact hgo
  have okx2:Enc.ok h1 ({ x with forecast:=g }:DHarbour):=⟨okg,okx1.2⟩
  simp only [go_sem,jq,jj,jy,jv,jk,jx,Option.isSome_some]
  refine Wk ?_
  refine zc9 rfl (fun hz=>?_) (fun hz=>?_)
  ·cases hz
  refine Wk ?_
  refine zhF (fun _=>z14 x g _) ?_
  refine Evs ?_
  refine zkj (z19 ({ x with forecast:=g }:DHarbour) _ okx2 (zEK hk2)) rfl ?_
  rintro v h2 le2 ⟨d,rfl,ed,okd,le2'⟩
  refine Wk ?_
  refine ⟨d,by rw [hF];rfl,?_,okd,Hp.le_trans le1 le2'⟩
  rw [hF,ed]
  show Con.con ({ x with forecast:=g }:DHarbour)={ (Con.con x:PHarbour) with forecast:=g' }
  rw [zk3,zk3,eg]
def z2b (x:PHarbour) (m lo hi:Int):PHarbour × Bool:=((zEI x m lo hi).getD zEJ,(zEI x m lo hi).isSome)
theorem z2c (x:DHarbour) (m lo hi:Int) (h:Hp) (hx:Enc.ok h x) (hm:I64 m) (hlo:I64 lo) (hhi:I64 hi):Ct jV 45 [x.v,.int .i64 m,.int .i64 lo,.int .i64 hi] h fun v h'=>∃ y:DHarbour,v=.tuple #[y.v,.bool (z2b (Con.con x) m lo hi).2]∧Con.con y=(z2b (Con.con x) m lo hi).1∧Enc.ok h' y∧Mine h h' y:=zEN x m lo hi h hx hm hlo hhi
theorem z2d (x:DHarbour) (m lo hi:Int) (h:Hp) (hx:Enc.ok h x) (hm:I64 m) (hlo:I64 lo) (hhi:I64 hi):Ct jV 44 [x.v,.int .i64 m,.int .i64 lo,.int .i64 hi] h fun v h'=>∃ y:DHarbour,v=.tuple #[y.v,.bool (z2b (Con.con x) m lo hi).2]∧Con.con y=(z2b (Con.con x) m lo hi).1∧Enc.ok h' y∧h.le h':=z2a x m lo hi h hx hm hlo hhi
theorem z2e (x:PHarbour) (m lo hi:Int):Sz.sz (z2b x m lo hi).1≤1048576:=by
 show Sz.sz ((zEI x m lo hi).getD zEJ)≤_
 rw [zEI]
 cases hR:zDU x.forecast m lo hi with
 | none=>exact Nat.le_of_ble_eq_true rfl
 | some g =>
  simp only
  split
  ·rename_i hk
   obtain ⟨_,_,hg,_⟩:=zEa hR
   rw [Option.getD_some,z1H]
   show Sz.sz g+Sz.sz x.chart+Sz.sz x.fleet+Sz.sz x.crew≤_
   rw [z1F,z1G,z1E,z1D]
   rw [zvo,zva,zvk,zvn,zvm] at hk
   simp only [jJ,decide_eq_true_eq] at hk
   obtain ⟨⟨⟨⟨_,⟨⟨⟨hp,hs⟩,hpt⟩,_⟩⟩,⟨hf,hsh⟩⟩,_⟩,⟨_,⟨_,⟨hm,_⟩⟩⟩⟩:=hk
   obtain ⟨ht,⟨_,hu⟩,_⟩:=zD5 hg
   rw [zuS,jJ,jJ,decide_eq_true_eq] at ht
   have nm:∀ s:ByteArray,zuN s=true→s.size≤8:=fun s h=>by
    rw [zuN,In,jJ,jJ,decide_eq_true_eq,decide_eq_true_eq,decide_eq_true_eq] at h
    have:=h.2.2;omega
   have b1:=zJY (l:=g.tide.parts) (k:=0) (fun _ _=>Nat.le_refl _)
   have b2:=zJY (l:=g.surges) (k:=0) (fun _ _=>Nat.le_refl _)
   have b3:=zJY (l:=x.chart.points) (k:=8) (fun y hy=>by
    obtain ⟨i,hi,rfl⟩:=List.getElem_of_mem hy
    have h9:=hpt i hi
    rw [ptOk,jJ,pget hi] at h9
    exact nm _ h9.1)
   have b4:=zJY (l:=x.chart.segments) (k:=0) (fun _ _=>Nat.le_refl _)
   have b5:=zJY (l:=x.fleet) (k:=8) (fun y hy=>by
    obtain ⟨i,hi,rfl⟩:=List.getElem_of_mem hy
    have h9:=hsh i hi
    rw [shOk,jJ,hget hi,zvj] at h9
    simp only [jJ] at h9
    exact nm _ h9.1.1.1.1.1)
   have b6:=zJY (l:=x.crew.moves) (k:=0) (fun _ _=>Nat.le_refl _)
   have c1:=ht.1.2
   omega
  ·exact Nat.le_of_ble_eq_true rfl
open Go Go.SL Go.RowKit Go.ChangeShapes Go.WideShapes Go.ChangeAt Go.Deep
theorem Tryz.own:ownKnob Tryz.prog.godebug=none:=by kernel_rfl
theorem Tryz.laidOut:laidOutB jV=true:=by kernel_rfl
theorem z1a:Tryz.prog.cellsOf 3=1:=by kernel_rfl
theorem z1b:Tryz.prog.cellsOf 4=1:=by kernel_rfl
theorem z1c:Tryz.prog.cellsOf 9=1:=by kernel_rfl
theorem z1d:Opens Int jV 3:=zOG Tryz.underlying3
theorem z1g:Tryz.prog.cellsOf 35=1:=by kernel_rfl
theorem opens_IntS:Opens (Sl Int) jV 35:=zkn Tryz.underlying35 (by kernel_rfl) z1d
theorem z1h:Tryz.prog.cellsOf 37=4:=by kernel_rfl
set_option maxRecDepth 100000 in
theorem opens_Crew:Opens DCrew jV 37:=by
 intro H enc w base spare held fuel cs x h
 obtain ⟨hl,hf⟩:=zOH Tryz.underlying37 h
 have hl:cs.length=4:=hl.trans (by kernel_rfl)
 match cs,hl with
 | [c0,c1,c2,c3],_ =>
  obtain ⟨a0,e0,o0⟩:=zOV Tryz.underlying3 hf 0 0 ⟨_,rfl,rfl,rfl⟩ z1a
  have e0:[c0]=[.int .i64 a0]:=e0
  obtain ⟨a1,e1,o1⟩:=zOV Tryz.underlying3 hf 1 1 ⟨_,rfl,rfl,rfl⟩ z1a
  have e1:[c1]=[.int .i64 a1]:=e1
  obtain ⟨a2,e2,o2⟩:=zOV Tryz.underlying3 hf 2 2 ⟨_,rfl,rfl,rfl⟩ z1a
  have e2:[c2]=[.int .i64 a2]:=e2
  obtain ⟨a3,e3,o3⟩:=opens_IntS.field hf 3 3 1 ⟨_,rfl,rfl,rfl⟩ z1g
  have e3:[c3]=Enc.enc a3:=e3
  have ee:[c0] ++ [c1] ++ [c2] ++ [c3]=[.int .i64 a0] ++ [.int .i64 a1] ++ [.int .i64 a2] ++ Enc.enc a3:=by rw [e0,e1,e2,e3]
  exact ⟨⟨a0,a1,a2,a3⟩,ee,o0,o1,o2,o3⟩
set_option maxRecDepth 100000 in
theorem z1i:Opens DPart jV 312:=by
 intro H enc w base spare held fuel cs x h
 obtain ⟨hl,hf⟩:=zOH Tryz.underlying312 h
 have hl:cs.length=3:=hl.trans (by kernel_rfl)
 match cs,hl with
 | [c0,c1,c2],_ =>
  obtain ⟨a0,e0,o0⟩:=zOV Tryz.underlying3 hf 0 0 ⟨_,rfl,rfl,rfl⟩ z1a
  have e0:[c0]=[.int .i64 a0]:=e0
  obtain ⟨a1,e1,o1⟩:=zOV Tryz.underlying3 hf 1 1 ⟨_,rfl,rfl,rfl⟩ z1a
  have e1:[c1]=[.int .i64 a1]:=e1
  obtain ⟨a2,e2,o2⟩:=zOV Tryz.underlying3 hf 2 2 ⟨_,rfl,rfl,rfl⟩ z1a
  have e2:[c2]=[.int .i64 a2]:=e2
  have ee:[c0] ++ [c1] ++ [c2]=[.int .i64 a0] ++ [.int .i64 a1] ++ [.int .i64 a2]:=by rw [e0,e1,e2]
  exact ⟨⟨a0,a1,a2⟩,ee,o0,o1,o2⟩
theorem z1j:Tryz.prog.cellsOf 22=1:=by kernel_rfl
theorem opens_PartS:Opens (Sl DPart) jV 22:=zkn Tryz.underlying22 (by kernel_rfl) z1i
theorem z1k:Tryz.prog.cellsOf 24=2:=by kernel_rfl
set_option maxRecDepth 100000 in
theorem opens_Tide:Opens DTide jV 24:=by
 intro H enc w base spare held fuel cs x h
 obtain ⟨hl,hf⟩:=zOH Tryz.underlying24 h
 have hl:cs.length=2:=hl.trans (by kernel_rfl)
 match cs,hl with
 | [c0,c1],_ =>
  obtain ⟨a0,e0,o0⟩:=zOV Tryz.underlying3 hf 0 0 ⟨_,rfl,rfl,rfl⟩ z1a
  have e0:[c0]=[.int .i64 a0]:=e0
  obtain ⟨a1,e1,o1⟩:=opens_PartS.field hf 1 1 1 ⟨_,rfl,rfl,rfl⟩ z1j
  have e1:[c1]=Enc.enc a1:=e1
  have ee:[c0] ++ [c1]=[.int .i64 a0] ++ Enc.enc a1:=by rw [e0,e1]
  exact ⟨⟨a0,a1⟩,ee,o0,o1⟩
set_option maxRecDepth 100000 in
theorem z1l:Opens DSurge jV 268:=by
 intro H enc w base spare held fuel cs x h
 obtain ⟨hl,hf⟩:=zOH Tryz.underlying268 h
 have hl:cs.length=3:=hl.trans (by kernel_rfl)
 match cs,hl with
 | [c0,c1,c2],_ =>
  obtain ⟨a0,e0,o0⟩:=zOV Tryz.underlying3 hf 0 0 ⟨_,rfl,rfl,rfl⟩ z1a
  have e0:[c0]=[.int .i64 a0]:=e0
  obtain ⟨a1,e1,o1⟩:=zOV Tryz.underlying3 hf 1 1 ⟨_,rfl,rfl,rfl⟩ z1a
  have e1:[c1]=[.int .i64 a1]:=e1
  obtain ⟨a2,e2,o2⟩:=zOV Tryz.underlying3 hf 2 2 ⟨_,rfl,rfl,rfl⟩ z1a
  have e2:[c2]=[.int .i64 a2]:=e2
  have ee:[c0] ++ [c1] ++ [c2]=[.int .i64 a0] ++ [.int .i64 a1] ++ [.int .i64 a2]:=by rw [e0,e1,e2]
  exact ⟨⟨a0,a1,a2⟩,ee,o0,o1,o2⟩
theorem z1m:Tryz.prog.cellsOf 25=1:=by kernel_rfl
theorem opens_SurgeS:Opens (Sl DSurge) jV 25:=zkn Tryz.underlying25 (by kernel_rfl) z1l
theorem z1n:Tryz.prog.cellsOf 27=3:=by kernel_rfl
set_option maxRecDepth 100000 in
theorem opens_Forecast:Opens DForecast jV 27:=by
 intro H enc w base spare held fuel cs x h
 obtain ⟨hl,hf⟩:=zOH Tryz.underlying27 h
 have hl:cs.length=3:=hl.trans (by kernel_rfl)
 match cs,hl with
 | [c0,c1,c2],_ =>
  obtain ⟨a0,e0,o0⟩:=opens_Tide.field hf 0 0 2 ⟨_,rfl,rfl,rfl⟩ z1k
  have e0:[c0,c1]=Enc.enc a0:=e0
  obtain ⟨a1,e1,o1⟩:=opens_SurgeS.field hf 1 2 1 ⟨_,rfl,rfl,rfl⟩ z1m
  have e1:[c2]=Enc.enc a1:=e1
  have ee:[c0,c1] ++ [c2]=Enc.enc a0 ++ Enc.enc a1:=by rw [e0,e1]
  exact ⟨⟨a0,a1⟩,ee,o0,o1⟩
set_option maxRecDepth 100000 in
theorem z1o:Opens DPoint jV 265:=by
 intro H enc w base spare held fuel cs x h
 obtain ⟨hl,hf⟩:=zOH Tryz.underlying265 h
 have hl:cs.length=2:=hl.trans (by kernel_rfl)
 match cs,hl with
 | [c0,c1],_ =>
  obtain ⟨a0,e0,o0⟩:=zOX Tryz.underlying9 hf 0 0 ⟨_,rfl,rfl,rfl⟩ z1c
  have e0:[c0]=[.string a0]:=e0
  obtain ⟨a1,e1⟩:=zOW Tryz.underlying4 hf 1 1 ⟨_,rfl,rfl,rfl⟩ z1b
  have e1:[c1]=[.bool a1]:=e1
  have ee:[c0] ++ [c1]=[.string a0] ++ [.bool a1]:=by rw [e0,e1]
  exact ⟨⟨a0,a1⟩,ee,o0⟩
theorem z1p:Tryz.prog.cellsOf 28=1:=by kernel_rfl
theorem opens_PointS:Opens (Sl DPoint) jV 28:=zkn Tryz.underlying28 (by kernel_rfl) z1o
set_option maxRecDepth 100000 in
theorem z1q:Opens DSegment jV 271:=by
 intro H enc w base spare held fuel cs x h
 obtain ⟨hl,hf⟩:=zOH Tryz.underlying271 h
 have hl:cs.length=5:=hl.trans (by kernel_rfl)
 match cs,hl with
 | [c0,c1,c2,c3,c4],_ =>
  obtain ⟨a0,e0,o0⟩:=zOV Tryz.underlying3 hf 0 0 ⟨_,rfl,rfl,rfl⟩ z1a
  have e0:[c0]=[.int .i64 a0]:=e0
  obtain ⟨a1,e1,o1⟩:=zOV Tryz.underlying3 hf 1 1 ⟨_,rfl,rfl,rfl⟩ z1a
  have e1:[c1]=[.int .i64 a1]:=e1
  obtain ⟨a2,e2,o2⟩:=zOV Tryz.underlying3 hf 2 2 ⟨_,rfl,rfl,rfl⟩ z1a
  have e2:[c2]=[.int .i64 a2]:=e2
  obtain ⟨a3,e3,o3⟩:=zOV Tryz.underlying3 hf 3 3 ⟨_,rfl,rfl,rfl⟩ z1a
  have e3:[c3]=[.int .i64 a3]:=e3
  obtain ⟨a4,e4⟩:=zOW Tryz.underlying4 hf 4 4 ⟨_,rfl,rfl,rfl⟩ z1b
  have e4:[c4]=[.bool a4]:=e4
  have ee:[c0] ++ [c1] ++ [c2] ++ [c3] ++ [c4]=[.int .i64 a0] ++ [.int .i64 a1] ++ [.int .i64 a2] ++ [.int .i64 a3] ++ [.bool a4]:=by rw [e0,e1,e2,e3,e4]
  exact ⟨⟨a0,a1,a2,a3,a4⟩,ee,o0,o1,o2,o3⟩
theorem z1r:Tryz.prog.cellsOf 29=1:=by kernel_rfl
theorem opens_SegmentS:Opens (Sl DSegment) jV 29:=zkn Tryz.underlying29 (by kernel_rfl) z1q
theorem z1s:Tryz.prog.cellsOf 31=2:=by kernel_rfl
set_option maxRecDepth 100000 in
theorem opens_Chart:Opens DChart jV 31:=by
 intro H enc w base spare held fuel cs x h
 obtain ⟨hl,hf⟩:=zOH Tryz.underlying31 h
 have hl:cs.length=2:=hl.trans (by kernel_rfl)
 match cs,hl with
 | [c0,c1],_ =>
  obtain ⟨a0,e0,o0⟩:=opens_PointS.field hf 0 0 1 ⟨_,rfl,rfl,rfl⟩ z1p
  have e0:[c0]=Enc.enc a0:=e0
  obtain ⟨a1,e1,o1⟩:=opens_SegmentS.field hf 1 1 1 ⟨_,rfl,rfl,rfl⟩ z1r
  have e1:[c1]=Enc.enc a1:=e1
  have ee:[c0] ++ [c1]=Enc.enc a0 ++ Enc.enc a1:=by rw [e0,e1]
  exact ⟨⟨a0,a1⟩,ee,o0,o1⟩
set_option maxRecDepth 100000 in
theorem z1t:Opens DShip jV 197:=by
 intro H enc w base spare held fuel cs x h
 obtain ⟨hl,hf⟩:=zOH Tryz.underlying197 h
 have hl:cs.length=6:=hl.trans (by kernel_rfl)
 match cs,hl with
 | [c0,c1,c2,c3,c4,c5],_ =>
  obtain ⟨a0,e0,o0⟩:=zOX Tryz.underlying9 hf 0 0 ⟨_,rfl,rfl,rfl⟩ z1c
  have e0:[c0]=[.string a0]:=e0
  obtain ⟨a1,e1,o1⟩:=zOV Tryz.underlying3 hf 1 1 ⟨_,rfl,rfl,rfl⟩ z1a
  have e1:[c1]=[.int .i64 a1]:=e1
  obtain ⟨a2,e2,o2⟩:=zOV Tryz.underlying3 hf 2 2 ⟨_,rfl,rfl,rfl⟩ z1a
  have e2:[c2]=[.int .i64 a2]:=e2
  obtain ⟨a3,e3,o3⟩:=zOV Tryz.underlying3 hf 3 3 ⟨_,rfl,rfl,rfl⟩ z1a
  have e3:[c3]=[.int .i64 a3]:=e3
  obtain ⟨a4,e4,o4⟩:=zOV Tryz.underlying3 hf 4 4 ⟨_,rfl,rfl,rfl⟩ z1a
  have e4:[c4]=[.int .i64 a4]:=e4
  obtain ⟨a5,e5⟩:=zOW Tryz.underlying4 hf 5 5 ⟨_,rfl,rfl,rfl⟩ z1b
  have e5:[c5]=[.bool a5]:=e5
  have ee:[c0] ++ [c1] ++ [c2] ++ [c3] ++ [c4] ++ [c5]=[.string a0] ++ [.int .i64 a1] ++ [.int .i64 a2] ++ [.int .i64 a3] ++ [.int .i64 a4] ++ [.bool a5]:=by rw [e0,e1,e2,e3,e4,e5]
  exact ⟨⟨a0,a1,a2,a3,a4,a5⟩,ee,o0,o1,o2,o3,o4⟩
theorem z1u:Tryz.prog.cellsOf 32=1:=by kernel_rfl
theorem opens_ShipS:Opens (Sl DShip) jV 32:=zkn Tryz.underlying32 (by kernel_rfl) z1t
theorem z1v:Tryz.prog.cellsOf 34=2:=by kernel_rfl
set_option maxRecDepth 100000 in
theorem opens_Regime:Opens DRegime jV 34:=by
 intro H enc w base spare held fuel cs x h
 obtain ⟨hl,hf⟩:=zOH Tryz.underlying34 h
 have hl:cs.length=2:=hl.trans (by kernel_rfl)
 match cs,hl with
 | [c0,c1],_ =>
  obtain ⟨a0,e0,o0⟩:=zOV Tryz.underlying3 hf 0 0 ⟨_,rfl,rfl,rfl⟩ z1a
  have e0:[c0]=[.int .i64 a0]:=e0
  obtain ⟨a1,e1⟩:=zOW Tryz.underlying4 hf 1 1 ⟨_,rfl,rfl,rfl⟩ z1b
  have e1:[c1]=[.bool a1]:=e1
  have ee:[c0] ++ [c1]=[.int .i64 a0] ++ [.bool a1]:=by rw [e0,e1]
  exact ⟨⟨a0,a1⟩,ee,o0⟩
set_option maxRecDepth 100000 in
theorem z1w:Opens DHarbour jV 39:=by
 intro H enc w base spare held fuel cs x h
 obtain ⟨hl,hf⟩:=zOH Tryz.underlying39 h
 have hl:cs.length=12:=hl.trans (by kernel_rfl)
 match cs,hl with
 | [c0,c1,c2,c3,c4,c5,c6,c7,c8,c9,c10,c11],_ =>
  obtain ⟨a0,e0,o0⟩:=opens_Forecast.field hf 0 0 3 ⟨_,rfl,rfl,rfl⟩ z1n
  have e0:[c0,c1,c2]=Enc.enc a0:=e0
  obtain ⟨a1,e1,o1⟩:=opens_Chart.field hf 1 3 2 ⟨_,rfl,rfl,rfl⟩ z1s
  have e1:[c3,c4]=Enc.enc a1:=e1
  obtain ⟨a2,e2,o2⟩:=opens_ShipS.field hf 2 5 1 ⟨_,rfl,rfl,rfl⟩ z1u
  have e2:[c5]=Enc.enc a2:=e2
  obtain ⟨a3,e3,o3⟩:=opens_Regime.field hf 3 6 2 ⟨_,rfl,rfl,rfl⟩ z1v
  have e3:[c6,c7]=Enc.enc a3:=e3
  obtain ⟨a4,e4,o4⟩:=opens_Crew.field hf 4 8 4 ⟨_,rfl,rfl,rfl⟩ z1h
  have e4:[c8,c9,c10,c11]=Enc.enc a4:=e4
  have ee:[c0,c1,c2] ++ [c3,c4] ++ [c5] ++ [c6,c7] ++ [c8,c9,c10,c11]=Enc.enc a0 ++ Enc.enc a1 ++ Enc.enc a2 ++ Enc.enc a3 ++ Enc.enc a4:=by rw [e0,e1,e2,e3,e4]
  exact ⟨⟨a0,a1,a2,a3,a4⟩,ee,o0,o1,o2,o3,o4⟩
end Go.Proofs.YtbkaaakphpbmiaaGreat
