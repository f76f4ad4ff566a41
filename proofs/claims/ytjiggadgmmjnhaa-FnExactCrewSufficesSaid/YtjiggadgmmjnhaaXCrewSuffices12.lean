/- What functions of the given program compute, each as a contract over what its arguments read as. No condition beside those that each theorem states. -/
import Derived.Test.YtjiggadgmmjnhaaS11
set_option linter.unusedVariables false
set_option linter.unusedSimpArgs false
namespace Go.Proofs.Ytjiggadgmmjnhaa
open Go Go.SL
set_option maxHeartbeats 1000000
def zvE (r:Option (List Nat)) (wn:List Nat) (v:Value) (gl:List U64) (wl:List Int):Prop:=match r with
  | none=>v=.bool false∧gl=grpL (ztx wn) wn∧wl=zs wn
  | some w=>v=.bool true∧wl=zs w
section
variable {hb h h2:Hp} {b most:Nat} {sets gs:Sl U64} {who:Sl Int}
theorem CV.flds (H:CV hb h b sets most gs who):h.lds (some ⟨b,0,none⟩) 1=some [sets.val]∧h.lds (some ⟨b,1,none⟩) 1=some [.int .i64 most]∧h.lds (some ⟨b,2,none⟩) 1=some [gs.val]∧h.lds (some ⟨b,3,none⟩) 1=some [who.val] :=
  ⟨zsq (xs:=[sets.val,.int .i64 most,gs.val,who.val]) H.1.2.2.2 rfl (by simp),zsq (xs:=[sets.val,.int .i64 most,gs.val,who.val]) H.1.2.2.2 rfl (by simp),zsq (xs:=[sets.val,.int .i64 most,gs.val,who.val]) H.1.2.2.2 rfl (by simp),zsq (xs:=[sets.val,.int .i64 most,gs.val,who.val]) H.1.2.2.2 rfl (by simp)⟩
theorem CV.gok {m:Nat} {wn:List Nat} (H:CV hb h b sets most gs who) (hg:gs.l=grpL m wn) (hl:wn.length≤12):gs.Ok h:=H.2.1.1.ok (by decide) fun x hx=>by
  rw [hg,grpL] at hx
  obtain ⟨p,_,rfl⟩:=List.mem_map.1 hx
  exact Nat.lt_of_lt_of_le zvi (Nat.pow_le_pow_right (by decide) (by omega))
end
theorem zvF {wn:List Nat} {c:Nat} (h:∀ p,p < ztx wn→p ∈ wn) (hc:c≤ztx wn):∀ p,p < ztx (wn ++ [c])→p ∈ wn ++ [c]:=fun p hp=>by
  rw [ztz] at hp
  rcases Nat.lt_or_ge p (ztx wn) with h1|h1
  · exact List.mem_append_left _ (h p h1)
  · have:p=c:=by omega
    subst this;exact List.mem_append_right _ (List.mem_singleton.2 rfl)
theorem zvG (both:Nat→Nat→Bool) (hb:Hp) (b:Nat) (sets:Sl U64) (n most:Nat) (hn:sets.l.length=n) (hn12:n≤12) (hm:most≤12) (hs:∀ i (hi:i < sets.l.length) k,(sets.l[i].n).testBit k=(decide (k < n) && (decide (i ≠ k) && both i k))) :
    ∀ (f:Nat) (wn:List Nat) (gs:Sl U64) (who:Sl Int) (h:Hp),CV hb h b sets most gs who→gs.l=grpL (ztx wn) wn→who.l=zs wn→wn.length+f=n→(∀ p,p < ztx wn→p ∈ wn)→ztx wn≤most →
      Cw Try.prog 46 [.pointer (some ⟨b,0,none⟩)] h (fun k=>hb k=none∧h k ≠ none) fun v h'=>∃ (gs':Sl U64) (who':Sl Int),CV hb h' b sets most gs' who'∧zvE (zty both most f wn) wn v gs'.l who'.l
  | 0,wn,gs,who,h,H,hg,hw,hlen,hin,hum=>by
    have hwl:who.l.length=sets.l.length:=by rw [hw,zu6];omega
    obtain ⟨q0,q1,q2,q3⟩:=H.flds
    refine zlD (fun A W=>by simp) Try.func46 rfl rfl (by simp)  (fun k hk=>hk.2) fun W0 hW=>?_
    repeat' first|refine zie rfl ?_|refine zc4 rfl ?_|refine zc7 ?_|refine zc8 ?_|refine zc5 ?_|refine zc6 ?_|(simp (maxSteps:=2000000) only [go_sem,Nat.reduceAdd,Nat.reduceMul,Nat.reduceBEq,Nat.reduceLeDiff,Nat.reduceLT,Nat.reduceEqDiff,q0,q3,hwl,true_or,true_and];try rfl)|refine zc3 ?_|(refine And.intro ?_ ?_;focus (intros;simp_all only [Bool.or_eq_false_iff,Bool.or_eq_true,Bool.and_eq_true,and_self,true_and,and_true];done))
    refine zc9 rfl (fun hq=>?_) (fun hq=>?_)
    · repeat' first|refine zie rfl ?_|refine zc4 rfl ?_|refine zc7 ?_|refine zc8 ?_|refine zc5 ?_|refine zc6 ?_|(simp (maxSteps:=2000000) only [go_sem,Nat.reduceAdd,Nat.reduceMul,Nat.reduceBEq,Nat.reduceLeDiff,Nat.reduceLT,Nat.reduceEqDiff];try rfl)|refine zc3 ?_|(refine And.intro ?_ ?_;focus (intros;simp_all only [Bool.or_eq_false_iff,Bool.or_eq_true,Bool.and_eq_true,and_self,true_and,and_true];done))
      exact ⟨gs,who,H,rfl,hw⟩
    · simp at hq
  | f+1,wn,gs,who,h,H,hg,hw,hlen,hin,hum=>by
    have hwl:who.l.length=wn.length:=by rw [hw,zu6]
    have hne:¬ ((wn.length:Int)=sets.l.length):=by omega
    obtain ⟨q0,q1,q2,q3⟩:=H.flds
    refine zlD (fun A W=>by simp) Try.func46 rfl rfl (by simp)  (fun k hk=>hk.2) fun W0 hW=>?_
    have own:∀ k,hb k=none→h k=none∨W0.own k:=fun k hk=>by
      cases hh:h k with
      | none=>exact .inl rfl
      | some o=>exact .inr (hW k ⟨hk,by rw [hh];simp⟩)
    repeat' first|refine zie rfl ?_|refine zc4 rfl ?_|refine zc7 ?_|refine zc8 ?_|refine zc5 ?_|refine zc6 ?_|(simp (maxSteps:=2000000) only [go_sem,Nat.reduceAdd,Nat.reduceMul,Nat.reduceBEq,Nat.reduceLeDiff,Nat.reduceLT,Nat.reduceEqDiff,q0,q3,hwl,true_or,true_and];try rfl)|refine zc3 ?_|(refine And.intro ?_ ?_;focus (intros;simp_all only [Bool.or_eq_false_iff,Bool.or_eq_true,Bool.and_eq_true,and_self,true_and,and_true];done))
    refine zc9 rfl (fun hq=>?_) (fun hq=>?_)
    · exact (hne (eq_of_beq hq)).elim
    repeat' first|refine zie rfl ?_|refine zc4 rfl ?_|refine zc7 ?_|refine zc8 ?_|refine zc5 ?_|refine zc6 ?_|(simp (maxSteps:=2000000) only [go_sem,Nat.reduceAdd,Nat.reduceMul,Nat.reduceBEq,Nat.reduceLeDiff,Nat.reduceLT,Nat.reduceEqDiff];try rfl)|refine zc3 ?_|(refine And.intro ?_ ?_;focus (intros;simp_all only [Bool.or_eq_false_iff,Bool.or_eq_true,Bool.and_eq_true,and_self,true_and,and_true];done))
    refine zde (ι:=Nat × Hp × Sl U64 × Sl Int) (fun i=>⟨[(0,true,.c (.v (.pointer (some ⟨b,0,none⟩)))),(2,true,.c (.v (.bool false))),(3,true,.c (.v (.int .i64 wn.length))),(4,true,.c (.v (.int .i64 i.1)))],[],i.2.1,0⟩) (fun i=>CV hb i.2.1 b sets most i.2.2.1 i.2.2.2∧i.2.2.1.l=grpL (ztx wn) wn∧i.2.2.2.l=zs wn∧i.1≤ztx wn∧∀ c,c < i.1→srGo both most f wn c=none) (fun i=>13 - i.1) (0,h,gs,who) ⟨H,hg,hw,Nat.zero_le _,fun c hc=>absurd hc (Nat.not_lt_zero _)⟩ ?_ ?_
    · simp (maxSteps:=2000000) only [go_sem,Nat.reduceAdd,Nat.reduceMul,Nat.reduceBEq,Nat.reduceLeDiff,Nat.reduceLT,Nat.reduceEqDiff]
      first|exact rfl|exact ⟨rfl,rfl⟩|exact ⟨rfl,rfl,rfl⟩|exact ⟨rfl,rfl,rfl,rfl⟩|exact ⟨rfl,rfl,rfl,rfl,rfl⟩
    rintro ⟨c,h1,gs1,who1⟩ ⟨H1,hg1,hw1,hcu,hno⟩
    simp only at H1 hg1 hw1 hcu hno
    have hgl:gs1.l.length=ztx wn:=by rw [hg1,zvf]
    obtain ⟨p0,p1,p2,p3⟩:=H1.flds
    repeat' first|refine zie rfl ?_|refine zc4 rfl ?_|refine zc7 ?_|refine zc8 ?_|refine zc5 ?_|refine zc6 ?_|(simp (maxSteps:=2000000) only [go_sem,Nat.reduceAdd,Nat.reduceMul,Nat.reduceBEq,Nat.reduceLeDiff,Nat.reduceLT,Nat.reduceEqDiff,p1,p2,hgl,true_or,true_and];try rfl)|refine zc3 ?_|(refine And.intro ?_ ?_;focus (intros;simp_all only [Bool.or_eq_false_iff,Bool.or_eq_true,Bool.and_eq_true,and_self,true_and,and_true];done))
    refine zc9 rfl (fun hq=>?_) (fun hq=>?_)
    · have hcm:c < most:=by
        rw [Bool.and_eq_true,decide_eq_true_eq,decide_eq_true_eq] at hq
        omega
      repeat' first|refine zie rfl ?_|refine zc4 rfl ?_|refine zc7 ?_|refine zc8 ?_|refine zc5 ?_|refine zc6 ?_|(simp (maxSteps:=2000000) only [go_sem,Nat.reduceAdd,Nat.reduceMul,Nat.reduceBEq,Nat.reduceLeDiff,Nat.reduceLT,Nat.reduceEqDiff,p1,p2,hgl,true_or,true_and];try rfl)|refine zc3 ?_|(refine And.intro ?_ ?_;focus (intros;simp_all only [Bool.or_eq_false_iff,Bool.or_eq_true,Bool.and_eq_true,and_self,true_and,and_true];done))
      refine zvy (ι:=Hp × Sl U64) (fun i=>⟨[(0,true,.c (.v (.pointer (some ⟨b,0,none⟩)))),(2,true,.c (.v (.bool false))),(3,true,.c (.v (.int .i64 wn.length))),(4,true,.c (.v (.int .i64 c)))],[],i.1,0⟩) (fun i=>CV hb i.1 b sets most i.2 who1∧i.2.l=grpL (ztx (wn ++ [c])) wn) ?_ ?_
      · refine zc9 rfl (fun hx=>?_) (fun hx=>?_)
        · refine zsA [0,0,0,0,0,0,3,0,0,1] rfl ?_
          simp (maxSteps:=2000000) only [go_sem,Nat.reduceAdd,Nat.reduceMul,Nat.reduceBEq,Nat.reduceLeDiff,Nat.reduceLT,Nat.reduceEqDiff,p2,true_or,true_and]
          refine zuc (s:=gs1) rfl H1.2.1.1 (fun g hg=>own g (H1.2.1.2 g hg).1) ?_
          simp (maxSteps:=2000000) only [go_sem,Nat.reduceAdd,Nat.reduceMul,Nat.reduceBEq,Nat.reduceLeDiff,Nat.reduceLT,Nat.reduceEqDiff,p2,true_or,true_and]
          refine ⟨rfl,by simp only [maxLen];omega,by omega,fun ad cap h2 P=>?_⟩
          have hx:=eq_of_beq hx
          have huc:ztx (wn ++ [c])=ztx wn+1:=by rw [ztz];omega
          have P':Pub (zub h1 gs1) 119 (Enc.size U64) (gs1.l ++ [(⟨0⟩:U64)]).length ((gs1.l ++ [(⟨0⟩:U64)]).flatMap Enc.enc) ad cap h2:=by
            rw [List.length_append,List.flatMap_append];exact P
          obtain ⟨b2,C2,-⟩:=H1.pubg P'
          refine zlV (by simp only [go_sem]) (by simp only [go_sem]) rfl rfl b2 (own b H1.1.2.2.1) (by simp) ?_
          simp (maxSteps:=2000000) only [go_sem,Nat.reduceAdd,Nat.reduceMul,Nat.reduceBEq,Nat.reduceLeDiff,Nat.reduceLT,Nat.reduceEqDiff]
          refine ⟨(h2.ins b (.cells #[sets.val,.int .i64 most,(Sl.mk ad cap (gs1.l ++ [(⟨0⟩:U64)])).val,who1.val] 88 (0,0)),⟨ad,cap,gs1.l ++ [⟨0⟩]⟩),⟨C2,by rw [huc,hg1];exact zvr (Nat.le_refl _)⟩,?_⟩
          simp (maxSteps:=2000000) only [go_sem,Nat.reduceAdd,Nat.reduceMul,Nat.reduceBEq,Nat.reduceLeDiff,Nat.reduceLT,Nat.reduceEqDiff]
          simp only [zvC,Sl.val,List.length_append,List.length_singleton]
        · have hx:=ne_of_beq_false hx
          have huc:ztx (wn ++ [c])=ztx wn:=by rw [ztz];omega
          repeat' first|refine zie rfl ?_|refine zc4 rfl ?_|refine zc7 ?_|refine zc8 ?_|refine zc5 ?_|refine zc6 ?_|(simp (maxSteps:=2000000) only [go_sem,Nat.reduceAdd,Nat.reduceMul,Nat.reduceBEq,Nat.reduceLeDiff,Nat.reduceLT,Nat.reduceEqDiff];try rfl)|refine zc3 ?_|(refine And.intro ?_ ?_;focus (intros;simp_all only [Bool.or_eq_false_iff,Bool.or_eq_true,Bool.and_eq_true,and_self,true_and,and_true];done))
          refine ⟨(h1,gs1),⟨H1,by rw [hg1,huc]⟩,?_⟩
          simp (maxSteps:=2000000) only [go_sem,Nat.reduceAdd,Nat.reduceMul,Nat.reduceBEq,Nat.reduceLeDiff,Nat.reduceLT,Nat.reduceEqDiff]
      rintro ⟨h2,gs2⟩ ⟨H2,hg2⟩
      simp only at H2 hg2
      have hcu2:c < ztx (wn ++ [c]):=by rw [ztz];omega
      have hum2:ztx (wn ++ [c])≤most:=by rw [ztz];omega
      have hc2:c < gs2.l.length:=by rw [hg2,zvf];exact hcu2
      have hc2i:(c:Int) < gs2.l.length:=by omega
      have gok:=H2.gok hg2 (by omega)
      have hi:wn.length < sets.l.length:=by omega
      have hii:(wn.length:Int) < sets.l.length:=by omega
      have sok:=H2.1.2.1.mono H2.1.1
      have hv:gs2.l[c].n=grpM wn c:=by simp only [hg2,zvg]
      obtain ⟨S,sv⟩:∃ S,sets.l[wn.length].n=S:=⟨_,rfl⟩
      have hfit:ztL (grpM wn c) S=0 ↔ ztw both wn c=true:=zvs (n:=n) (by omega) hn12 (fun k=>by rw [← sv];exact hs _ hi k)
      have hgl62:grpM wn c < 2 ^ 12:=Nat.lt_of_lt_of_le zvi (Nat.pow_le_pow_right (by decide) (by omega))
      have hvb:zaE .andNot .u64 ((grpM wn c:Nat):Int) ((S:Nat):Int)=((ztL (grpM wn c) S:Nat):Int):=ztX (by omega)
      obtain ⟨r0,r1,r2,r3⟩:=H2.flds
      have hat1:=zuf gok hc2
      have hat2:=zuf sok hi
      simp only [Nat.mul_one] at hat1 hat2
      repeat' first|refine zie rfl ?_|refine zc4 rfl ?_|refine zc7 ?_|refine zc8 ?_|refine zc5 ?_|refine zc6 ?_|(simp (maxSteps:=2000000) only [go_sem,Nat.reduceAdd,Nat.reduceMul,Nat.reduceBEq,Nat.reduceLeDiff,Nat.reduceLT,Nat.reduceEqDiff];try rfl)|refine zc3 ?_|(refine And.intro ?_ ?_;focus (intros;simp_all only [Bool.or_eq_false_iff,Bool.or_eq_true,Bool.and_eq_true,and_self,true_and,and_true];done))
      refine zte rfl ?_
      refine zs7 [0,4,7,11,1,8,2,9,3,10,5,12,6,13,14,15] rfl (by kernel_rfl) ?_
      simp (maxSteps:=2000000) only [go_sem,Nat.reduceAdd,Nat.reduceMul,Nat.reduceBEq,Nat.reduceLeDiff,Nat.reduceLT,Nat.reduceEqDiff,r0,r2,hv,sv,hvb,hat1,gok.some hc2,hc2,hc2i,hat2,sok.some hi,hi,hii,Int.toNat_natCast,Int.natCast_nonneg,Nat.mul_one,implies_true,true_and,and_true,and_self,true_or]
      refine ztd (by kernel_rfl) ?_
      repeat' first|refine zie rfl ?_|refine zc4 rfl ?_|refine zc7 ?_|refine zc8 ?_|refine zc5 ?_|refine zc6 ?_|(simp (maxSteps:=2000000) only [go_sem,Nat.reduceAdd,Nat.reduceMul,Nat.reduceBEq,Nat.reduceLeDiff,Nat.reduceLT,Nat.reduceEqDiff];try rfl)|refine zc3 ?_|(refine And.intro ?_ ?_;focus (intros;simp_all only [Bool.or_eq_false_iff,Bool.or_eq_true,Bool.and_eq_true,and_self,true_and,and_true];done))
      refine zvy (ι:=Hp × Sl U64 × Sl Int) (fun i=>⟨[(0,true,.c (.v (.pointer (some ⟨b,0,none⟩)))),(2,true,.c (.v (.bool false))),(3,true,.c (.v (.int .i64 wn.length))),(4,true,.c (.v (.int .i64 c)))],[],i.1,0⟩) (fun i=>CV hb i.1 b sets most i.2.1 i.2.2∧i.2.1.l=grpL (ztx (wn ++ [c])) wn∧i.2.2.l=zs wn∧srGo both most f wn c=none) ?_ ?_
      · refine zc9 rfl (fun hx=>?_) (fun hx=>?_)
        · have hfc:ztw both wn c=true:=hfit.1 (by have:=eq_of_beq hx;omega)
          have hsh:=zuF (j:=wn.length) (by omega)
          have hpw:2 ^ wn.length≤2 ^ 12:=Nat.pow_le_pow_right (by decide) (by omega)
          have hor:zaE .or .u64 ((grpM wn c:Nat):Int) ((2 ^ wn.length:Nat):Int)=((grpM wn c ||| 2 ^ wn.length:Nat):Int):=ztV (by omega) (by omega)
          obtain ⟨g,cur,ga,gb,gsz,C3⟩:=H2.setg ⟨grpM wn c ||| 2 ^ wn.length⟩ hc2
          have hat3:=hat1
          simp only [ga,Option.map_some,za4,Nat.zero_add] at hat3
          repeat' first|refine zie rfl ?_|refine zc4 rfl ?_|refine zc7 ?_|refine zc8 ?_|refine zc5 ?_|refine zc6 ?_|(simp (maxSteps:=2000000) only [go_sem,Nat.reduceAdd,Nat.reduceMul,Nat.reduceBEq,Nat.reduceLeDiff,Nat.reduceLT,Nat.reduceEqDiff];try rfl)|refine zc3 ?_|(refine And.intro ?_ ?_;focus (intros;simp_all only [Bool.or_eq_false_iff,Bool.or_eq_true,Bool.and_eq_true,and_self,true_and,and_true];done))
          refine zte rfl ?_
          refine zs7 [0,4,7,1,8,2,3,5,6,9,10] rfl (by kernel_rfl) ?_
          simp (maxSteps:=2000000) only [go_sem,Nat.reduceAdd,Nat.reduceMul,Nat.reduceBEq,Nat.reduceLeDiff,Nat.reduceLT,Nat.reduceEqDiff,r0,r2,hv,hor,hsh,ga,hat3,hc2,hc2i,Option.map_some,za4,Option.isSome_some,Int.toNat_natCast,Int.natCast_nonneg,Nat.mul_one,Nat.zero_add,Nat.add_zero,List.toList_toArray,implies_true,true_and,and_true,and_self,true_or]
          refine ztc 11 1 [] rfl (by kernel_rfl) (by kernel_rfl) (by kernel_rfl) rfl ?_
          simp (maxSteps:=2000000) only [go_sem,Nat.reduceAdd,Nat.reduceMul,Nat.reduceBEq,Nat.reduceLeDiff,Nat.reduceLT,Nat.reduceEqDiff,r0,r2,hv,hor,hsh,ga,hat3,hc2,hc2i,Option.map_some,za4,Option.isSome_some,Int.toNat_natCast,Int.natCast_nonneg,Nat.mul_one,Nat.zero_add,Nat.add_zero,List.toList_toArray,implies_true,true_and,and_true,and_self,true_or]
          refine zlV (by simp only [go_sem]) (by simp only [go_sem]) rfl rfl gb (own g (H2.2.1.2 g ga).1) gsz ?_
          simp (maxSteps:=2000000) only [go_sem,Nat.reduceAdd,Nat.reduceMul,Nat.reduceBEq,Nat.reduceLeDiff,Nat.reduceLT,Nat.reduceEqDiff]
          generalize h2.ins g (.cells (spl c [.int .u64 ((grpM wn c ||| 2 ^ wn.length:Nat):Int)] cur.toList).toArray 119 (0,0))=h3 at C3 ⊢
          refine ztd (by kernel_rfl) ?_
          obtain ⟨t0,t1,t2,t3⟩:=C3.flds
          have hwl1:who1.l.length=wn.length:=by rw [hw1,zu6]
          first|refine zsB [0,0,0,0,0,0,0,3,0,0,1] rfl ?_|refine zsA [0,0,0,0,0,0,0,3,0,0,1] rfl ?_|(refine zc3 ?_;first|refine zsB [0,0,0,0,0,0,0,3,0,0,1] rfl ?_|refine zsA [0,0,0,0,0,0,0,3,0,0,1] rfl ?_)
          simp (maxSteps:=2000000) only [go_sem,Nat.reduceAdd,Nat.reduceMul,Nat.reduceBEq,Nat.reduceLeDiff,Nat.reduceLT,Nat.reduceEqDiff,t3,true_or,true_and]
          refine zuc (s:=who1) rfl C3.2.2.1.1 (fun g hg=>own g (C3.2.2.1.2 g hg).1) ?_
          simp (maxSteps:=2000000) only [go_sem,Nat.reduceAdd,Nat.reduceMul,Nat.reduceBEq,Nat.reduceLeDiff,Nat.reduceLT,Nat.reduceEqDiff,t3,true_or,true_and]
          refine ⟨rfl,by simp only [maxLen];omega,by omega,fun ad cap h4 P=>?_⟩
          have P':Pub (zub h3 who1) 3 (Enc.size Int) (who1.l ++ [(c:Int)]).length ((who1.l ++ [(c:Int)]).flatMap Enc.enc) ad cap h4:=by
            rw [List.length_append,List.flatMap_append];exact P
          obtain ⟨b4,C4,-⟩:=C3.pubw P'
          refine zlV (by simp only [go_sem]) (by simp only [go_sem]) rfl rfl b4 (own b H1.1.2.2.1) (by simp) ?_
          simp (maxSteps:=2000000) only [go_sem,Nat.reduceAdd,Nat.reduceMul,Nat.reduceBEq,Nat.reduceLeDiff,Nat.reduceLT,Nat.reduceEqDiff,zvD]
          rw [show (Sl.mk ad cap (who1.l ++ [(c:Int)])).val=.slice ad (who1.l.length+1) cap from by simp only [Sl.val,List.length_append,List.length_singleton]] at C4
          generalize h4.ins b (.cells #[sets.val,.int .i64 most,(Sl.mk gs2.a gs2.cap (gs2.l.set c ⟨grpM wn c ||| 2 ^ wn.length⟩)).val,.slice ad (who1.l.length+1) cap] 88 (0,0))=h5 at C4 ⊢
          first|refine zsB [0,1] rfl ?_|refine zsA [0,1] rfl ?_|(refine zc3 ?_;first|refine zsB [0,1] rfl ?_|refine zsA [0,1] rfl ?_)
          simp (maxSteps:=2000000) only [go_sem,Nat.reduceAdd,Nat.reduceMul,Nat.reduceBEq,Nat.reduceLeDiff,Nat.reduceLT,Nat.reduceEqDiff]
          refine zlE (zvG both hb b sets n most hn hn12 hm hs f (wn ++ [c]) _ _ h5 C4 (by rw [hg2];exact zvn hcu2) (by rw [hw1];simp [zs]) (by rw [List.length_append,List.length_singleton];omega) (zvF hin hcu) hum2) rfl (fun k hk=>⟨hk.2,own k hk.1⟩) ?_
          rintro v h6 kp ⟨gs6,who6,C6,hout⟩
          cases hr:zty both most f (wn ++ [c]) with
          | some w =>
            rw [hr] at hout
            obtain ⟨rfl,hw6⟩:=hout
            simp (maxSteps:=2000000) only [go_sem,Nat.reduceAdd,Nat.reduceMul,Nat.reduceBEq,Nat.reduceLeDiff,Nat.reduceLT,Nat.reduceEqDiff]
            repeat' first|refine zie rfl ?_|refine zc4 rfl ?_|refine zc7 ?_|refine zc8 ?_|refine zc5 ?_|refine zc6 ?_|(simp (maxSteps:=2000000) only [go_sem,Nat.reduceAdd,Nat.reduceMul,Nat.reduceBEq,Nat.reduceLeDiff,Nat.reduceLT,Nat.reduceEqDiff];try rfl)|refine zc3 ?_|(refine And.intro ?_ ?_;focus (intros;simp_all only [Bool.or_eq_false_iff,Bool.or_eq_true,Bool.and_eq_true,and_self,true_and,and_true];done))
            refine zc9 rfl (fun hq=>?_) (fun hq=>?_)
            case refine_2=>cases hq
            repeat' first|refine zie rfl ?_|refine zc4 rfl ?_|refine zc7 ?_|refine zc8 ?_|refine zc5 ?_|refine zc6 ?_|(simp (maxSteps:=2000000) only [go_sem,Nat.reduceAdd,Nat.reduceMul,Nat.reduceBEq,Nat.reduceLeDiff,Nat.reduceLT,Nat.reduceEqDiff];try rfl)|refine zc3 ?_|(refine And.intro ?_ ?_;focus (intros;simp_all only [Bool.or_eq_false_iff,Bool.or_eq_true,Bool.and_eq_true,and_self,true_and,and_true];done))
            have hgo:srGo both most f wn c=some w:=by rw [srGo,if_pos hfc];exact hr
            have hsr:zty both most (f+1) wn=some w:=by
              unfold zty
              exact zu5 (α:=Nat) hno hgo (by omega)
            rw [hsr]
            exact ⟨gs6,who6,C6,rfl,hw6⟩
          | none =>
            rw [hr] at hout
            obtain ⟨rfl,hg6,hw6⟩:=hout
            simp (maxSteps:=2000000) only [go_sem,Nat.reduceAdd,Nat.reduceMul,Nat.reduceBEq,Nat.reduceLeDiff,Nat.reduceLT,Nat.reduceEqDiff]
            repeat' first|refine zie rfl ?_|refine zc4 rfl ?_|refine zc7 ?_|refine zc8 ?_|refine zc5 ?_|refine zc6 ?_|(simp (maxSteps:=2000000) only [go_sem,Nat.reduceAdd,Nat.reduceMul,Nat.reduceBEq,Nat.reduceLeDiff,Nat.reduceLT,Nat.reduceEqDiff];try rfl)|refine zc3 ?_|(refine And.intro ?_ ?_;focus (intros;simp_all only [Bool.or_eq_false_iff,Bool.or_eq_true,Bool.and_eq_true,and_self,true_and,and_true];done))
            refine zc9 rfl (fun hq=>?_) (fun hq=>?_)
            · cases hq
            refine zc5 ?_
            simp (maxSteps:=2000000) only [go_sem,Nat.reduceAdd,Nat.reduceMul,Nat.reduceBEq,Nat.reduceLeDiff,Nat.reduceLT,Nat.reduceEqDiff]
            have hwl6:who6.l.length=wn.length+1:=by rw [hw6,zu6,List.length_append,List.length_singleton]
            obtain ⟨t0,t1,t2,t3⟩:=C6.flds
            first|refine zsB [0,0,0,0,0,0,0,0,0,1] rfl ?_|refine zsA [0,0,0,0,0,0,0,0,0,1] rfl ?_|(refine zc3 ?_;first|refine zsB [0,0,0,0,0,0,0,0,0,1] rfl ?_|refine zsA [0,0,0,0,0,0,0,0,0,1] rfl ?_)
            simp (maxSteps:=2000000) only [go_sem,Nat.reduceAdd,Nat.reduceMul,Nat.reduceBEq,Nat.reduceLeDiff,Nat.reduceLT,Nat.reduceEqDiff,t3,true_or,true_and,Int.toNat_zero,Nat.zero_mul,zrp,zrq,ite_self,Nat.sub_zero]
            have hcap6:=C6.2.2.1.1.1
            refine ⟨by omega,?_⟩
            rw [zrr (by omega)]
            have C7:=C6.tow (k:=wn.length) (by omega)
            refine zlV (by simp only [go_sem]) (by simp only [go_sem]) rfl rfl C6.1.2.2.2 (own b H1.1.2.2.1) (by simp) ?_
            simp (maxSteps:=2000000) only [go_sem,Nat.reduceAdd,Nat.reduceMul,Nat.reduceBEq,Nat.reduceLeDiff,Nat.reduceLT,Nat.reduceEqDiff,zvD]
            generalize h6.ins b (.cells #[sets.val,.int .i64 most,gs6.val,(who6.to wn.length).val] 88 (0,0))=h7 at C7 ⊢
            have hc7:c < gs6.l.length:=by rw [hg6,zvf];exact hcu2
            have hc7i:(c:Int) < gs6.l.length:=by omega
            have gok7:=C7.gok hg6 (by rw [List.length_append,List.length_singleton];omega)
            have hv3:gs6.l[c].n=grpM (wn ++ [c]) c:=by simp only [hg6,zvg]
            have hat7:=zuf gok7 hc7
            have hgl7:grpM (wn ++ [c]) c < 2 ^ 13:=Nat.lt_of_lt_of_le zvi (Nat.pow_le_pow_right (by decide) (by rw [List.length_append,List.length_singleton];omega))
            have hand:zaE .andNot .u64 ((grpM (wn ++ [c]) c:Nat):Int) ((2 ^ wn.length:Nat):Int)=((grpM wn c:Nat):Int):=by rw [ztX (by omega),zvo (by omega)]
            obtain ⟨g7,cur7,ga7,gb7,gsz7,C8⟩:=C7.setg ⟨grpM wn c⟩ hc7
            simp only [Nat.mul_one,ga7,Option.map_some,za4,Nat.zero_add] at hat7
            obtain ⟨t0,t1,t2,t3⟩:=C7.flds
            refine zte rfl ?_
            refine zs7 [0,4,7,1,8,2,3,5,6,9,10] rfl (by kernel_rfl) ?_
            simp (maxSteps:=2000000) only [go_sem,Nat.reduceAdd,Nat.reduceMul,Nat.reduceBEq,Nat.reduceLeDiff,Nat.reduceLT,Nat.reduceEqDiff,t2,hv3,hand,hsh,ga7,hat7,hc7,hc7i,Option.map_some,za4,Option.isSome_some,Int.toNat_natCast,Int.natCast_nonneg,Nat.mul_one,Nat.zero_add,Nat.add_zero,List.toList_toArray,implies_true,true_and,and_true,and_self,true_or]
            refine ztc 11 1 [] rfl (by kernel_rfl) (by kernel_rfl) (by kernel_rfl) rfl ?_
            simp (maxSteps:=2000000) only [go_sem,Nat.reduceAdd,Nat.reduceMul,Nat.reduceBEq,Nat.reduceLeDiff,Nat.reduceLT,Nat.reduceEqDiff,t2,hv3,hand,hsh,ga7,hat7,hc7,hc7i,Option.map_some,za4,Option.isSome_some,Int.toNat_natCast,Int.natCast_nonneg,Nat.mul_one,Nat.zero_add,Nat.add_zero,List.toList_toArray,implies_true,true_and,and_true,and_self,true_or]
            refine zlV (by simp only [go_sem]) (by simp only [go_sem]) rfl rfl gb7 (own g7 (C7.2.1.2 g7 ga7).1) gsz7 ?_
            simp (maxSteps:=2000000) only [go_sem,Nat.reduceAdd,Nat.reduceMul,Nat.reduceBEq,Nat.reduceLeDiff,Nat.reduceLT,Nat.reduceEqDiff]
            generalize h7.ins g7 (.cells (spl c [.int .u64 ((grpM wn c:Nat):Int)] cur7.toList).toArray 119 (0,0))=h8 at C8 ⊢
            refine ztd (by kernel_rfl) ?_
            refine ⟨(h8,_,_),⟨C8,by simp only [hg6];exact zvp hcu2,?_,by rw [srGo,if_pos hfc];exact hr⟩,?_⟩
            · show who6.l.take wn.length=zs wn
              rw [hw6,zs,List.map_append,List.take_append_of_le_length (by rw [List.length_map];exact Nat.le_refl _)]
              exact List.take_of_length_le (by rw [List.length_map];exact Nat.le_refl _)
            simp (maxSteps:=2000000) only [go_sem,Nat.reduceAdd,Nat.reduceMul,Nat.reduceBEq,Nat.reduceLeDiff,Nat.reduceLT,Nat.reduceEqDiff]
        · have hfc:ztw both wn c=false:=by
            rw [← Bool.not_eq_true,← hfit]
            have:=ne_of_beq_false hx;omega
          repeat' first|refine zie rfl ?_|refine zc4 rfl ?_|refine zc7 ?_|refine zc8 ?_|refine zc5 ?_|refine zc6 ?_|(simp (maxSteps:=2000000) only [go_sem,Nat.reduceAdd,Nat.reduceMul,Nat.reduceBEq,Nat.reduceLeDiff,Nat.reduceLT,Nat.reduceEqDiff];try rfl)|refine zc3 ?_|(refine And.intro ?_ ?_;focus (intros;simp_all only [Bool.or_eq_false_iff,Bool.or_eq_true,Bool.and_eq_true,and_self,true_and,and_true];done))
          refine ⟨(h2,gs2,who1),⟨H2,hg2,hw1,by rw [srGo,if_neg (by rw [hfc];exact Bool.false_ne_true)]⟩,?_⟩
          simp (maxSteps:=2000000) only [go_sem,Nat.reduceAdd,Nat.reduceMul,Nat.reduceBEq,Nat.reduceLeDiff,Nat.reduceLT,Nat.reduceEqDiff]
      rintro ⟨h9,gs9,who9⟩ ⟨H9,hg9,hw9,hn9⟩
      simp only at H9 hg9 hw9 hn9
      have hc9:c < gs9.l.length:=by rw [hg9,zvf];exact hcu2
      have hc9i:(c:Int) < gs9.l.length:=by omega
      have gok9:=H9.gok hg9 (by omega)
      have hv9:gs9.l[c].n=grpM wn c:=by simp only [hg9,zvg]
      have hat9:=zuf gok9 hc9
      simp only [Nat.mul_one] at hat9
      obtain ⟨t0,t1,t2,t3⟩:=H9.flds
      repeat' first|refine zie rfl ?_|refine zc4 rfl ?_|refine zc7 ?_|refine zc8 ?_|refine zc5 ?_|refine zc6 ?_|(simp (maxSteps:=2000000) only [go_sem,Nat.reduceAdd,Nat.reduceMul,Nat.reduceBEq,Nat.reduceLeDiff,Nat.reduceLT,Nat.reduceEqDiff,t2,hv9,hat9,gok9.some hc9,hc9,hc9i,Int.toNat_natCast,Int.natCast_nonneg,Nat.mul_one,implies_true,true_and,and_true,and_self,true_or];try rfl)|refine zc3 ?_|(refine And.intro ?_ ?_;focus (intros;simp_all only [Bool.or_eq_false_iff,Bool.or_eq_true,Bool.and_eq_true,and_self,true_and,and_true];done))
      refine zc9 rfl (fun hz=>?_) (fun hz=>?_)
      · have hz:grpM wn c=0:=by have:=eq_of_beq hz;omega
        have hce:c=ztx wn:=by
          rcases Nat.lt_or_ge c (ztx wn) with h1|h1
          · exact (zvk (hin c h1) hz).elim
          · omega
        first|refine zsB [0,0,0,0,0,0,0,0,0,1] rfl ?_|refine zsA [0,0,0,0,0,0,0,0,0,1] rfl ?_|(refine zc3 ?_;first|refine zsB [0,0,0,0,0,0,0,0,0,1] rfl ?_|refine zsA [0,0,0,0,0,0,0,0,0,1] rfl ?_)
        simp (maxSteps:=2000000) only [go_sem,Nat.reduceAdd,Nat.reduceMul,Nat.reduceBEq,Nat.reduceLeDiff,Nat.reduceLT,Nat.reduceEqDiff,t2,true_or,true_and,Int.toNat_zero,Nat.zero_mul,zrp,zrq,ite_self,Nat.sub_zero]
        have hcap9:=H9.2.1.1.1
        refine ⟨by omega,?_⟩
        rw [zrr (by omega)]
        have C10:=H9.tog (k:=c) (by omega)
        refine zlV (by simp only [go_sem]) (by simp only [go_sem]) rfl rfl H9.1.2.2.2 (own b H1.1.2.2.1) (by simp) ?_
        simp (maxSteps:=2000000) only [go_sem,Nat.reduceAdd,Nat.reduceMul,Nat.reduceBEq,Nat.reduceLeDiff,Nat.reduceLT,Nat.reduceEqDiff,zvC]
        repeat' first|refine zie rfl ?_|refine zc4 rfl ?_|refine zc7 ?_|refine zc8 ?_|refine zc5 ?_|refine zc6 ?_|(simp (maxSteps:=2000000) only [go_sem,Nat.reduceAdd,Nat.reduceMul,Nat.reduceBEq,Nat.reduceLeDiff,Nat.reduceLT,Nat.reduceEqDiff];try rfl)|refine zc3 ?_|(refine And.intro ?_ ?_;focus (intros;simp_all only [Bool.or_eq_false_iff,Bool.or_eq_true,Bool.and_eq_true,and_self,true_and,and_true];done))
        have hnone:zty both most (f+1) wn=none:=by
          unfold zty
          rw [List.findSome?_eq_none_iff]
          intro x hx
          have hx:=List.mem_range.1 hx
          rcases Nat.lt_or_ge x c with h1|h1
          · exact hno x h1
          · obtain rfl:x=c:=by omega
            exact hn9
        rw [hnone]
        refine ⟨_,_,C10,rfl,?_,hw9⟩
        show gs9.l.take c=_
        rw [hg9,zvq (by omega),hce]
      · have hz:¬ grpM wn c=0:=by have:=ne_of_beq_false hz;omega
        have hce:c < ztx wn:=by
          rcases Nat.lt_or_ge c (ztx wn) with h1|h1
          · exact h1
          · exact (hz (zvj h1)).elim
        have huc:ztx (wn ++ [c])=ztx wn:=by rw [ztz];omega
        repeat' first|refine zie rfl ?_|refine zc4 rfl ?_|refine zc7 ?_|refine zc8 ?_|refine zc5 ?_|refine zc6 ?_|(simp (maxSteps:=2000000) only [go_sem,Nat.reduceAdd,Nat.reduceMul,Nat.reduceBEq,Nat.reduceLeDiff,Nat.reduceLT,Nat.reduceEqDiff];try rfl)|refine zc3 ?_|(refine And.intro ?_ ?_;focus (intros;simp_all only [Bool.or_eq_false_iff,Bool.or_eq_true,Bool.and_eq_true,and_self,true_and,and_true];done))
        refine ⟨(c+1,h9,gs9,who9),⟨H9,by rw [hg9,huc],hw9,by omega,fun c' hc'=>?_⟩,by simp only;omega,zjB (zjA (n:=4096) (k:=c) (by omega) (by omega)),rfl⟩
        rcases Nat.lt_or_ge c' c with h1|h1
        · exact hno c' h1
        · obtain rfl:c'=c:=by omega
          exact hn9
    · have hge:most≤c:=by
        rw [Bool.and_eq_false_iff,decide_eq_false_iff_not,decide_eq_false_iff_not] at hq
        omega
      have hnone:zty both most (f+1) wn=none:=by
        unfold zty
        rw [List.findSome?_eq_none_iff]
        exact fun x hx=>hno x (by have:=List.mem_range.1 hx;omega)
      rw [hnone]
      repeat' first|refine zie rfl ?_|refine zc4 rfl ?_|refine zc7 ?_|refine zc8 ?_|refine zc5 ?_|refine zc6 ?_|(simp (maxSteps:=2000000) only [go_sem,Nat.reduceAdd,Nat.reduceMul,Nat.reduceBEq,Nat.reduceLeDiff,Nat.reduceLT,Nat.reduceEqDiff];try rfl)|refine zc3 ?_|(refine And.intro ?_ ?_;focus (intros;simp_all only [Bool.or_eq_false_iff,Bool.or_eq_true,Bool.and_eq_true,and_self,true_and,and_true];done))
      exact ⟨gs1,who1,H1,rfl,hg1,hw1⟩
end Go.Proofs.Ytjiggadgmmjnhaa
namespace Go.Proofs.Ytjiggadgmmjnhaa
open Go Go.SL
set_option maxHeartbeats 1000000
def zvH (p:Int) (m:List Int) (l:List DDuty) (i k:Nat):Bool:=fol2 p m (l.getD i dD) (l.getD k dD)
def zvI (both:Nat→Nat→Bool) (n:Nat):Option (List Nat × Nat):=(List.range (n+1)).findSome? fun k=>(zty both k n []).map fun w=>(w,k)
def zvJ (p:Int) (m:List Int) (l:List DDuty):Bool:=zul l && (In p 0 2880 && zrP m)
def zvK (p:Int) (m:List Int) (l:List DDuty):List Int × Int × Bool:=if zvJ p m l=true then (match zvI (zvH p m l) l.length with|some (w,k)=>(zs w,(k:Int),true)|none=>([],0,false)) else ([],0,false)
theorem zvL {both:Nat→Nat→Bool} {n k:Nat}:(zty both k n []).isSome=true ↔ CovOn both (fun i=>i < n) k:=ztE
theorem zvM {both:Nat→Nat→Bool} {n k:Nat} {w:List Nat} (h:∀ j,j < k→zty both j n []=none) (hw:zty both k n []=some w) (hk:k≤n):zvI both n=some (w,k):=by
  unfold zvI
  exact zu5 (α:=Nat) (n:=k) (fun c hc=>by rw [h c hc];rfl) (by rw [hw];rfl) (by omega)
theorem zvN {both:Nat→Nat→Bool} {n m:Nat} (H:ztY both (2 ^ n - 1) m):∃ w,zty both m n []=some w∧zvI both n=some (w,m)∧m≤n:=by
  have e:(fun i=>(2 ^ n - 1).testBit i=true)=fun i=>i < n:=by
    funext i;rw [Nat.testBit_two_pow_sub_one,decide_eq_true_eq]
  obtain ⟨h1,h2⟩:=H
  rw [e] at h1 h2
  obtain ⟨w,hw⟩:=Option.isSome_iff_exists.1 (zvL.2 h1)
  have hm:m≤n:=h2 n (CovOn.id fun i hi=>hi)
  refine ⟨w,hw,zvM (fun j hj=>?_) hw hm,hm⟩
  cases hh:zty both j n [] with
  | none=>rfl
  | some w' =>
    have:=h2 j (zvL.1 (by rw [hh];rfl))
    omega
theorem zvO {both:Nat→Nat→Bool} {n:Nat}:(zvI both n).isSome=true:=by
  obtain ⟨w,hw⟩:=Option.isSome_iff_exists.1 (zvL.2 (CovOn.id (both:=both) (s:=fun i=>i < n) fun i hi=>hi))
  rw [Option.isSome_iff_ne_none]
  intro hn
  unfold zvI at hn
  rw [List.findSome?_eq_none_iff] at hn
  have:=hn n (List.mem_range.2 (by omega))
  rw [hw] at this;cases this
theorem zvP {l:List DDuty} (h:zul l=true):l.length≤12∧∀ i (hi:i < l.length),zuk l[i]=true:=by
  rw [zul,Bool.and_eq_true,decide_eq_true_eq,List.all_eq_true] at h
  exact ⟨h.1,fun i hi=>h.2 _ (List.getElem_mem hi)⟩
theorem zvQ {p:Int} {m:List Int} {l:List DDuty} (h:zvJ p m l=true):zul l=true∧In p 0 2880=true∧zrP m=true:=by
  rw [zvJ,Bool.and_eq_true,Bool.and_eq_true] at h;exact h
theorem zvR {p:Int} {m:List Int} {l:List DDuty} (h:zvJ p m l=false):zvK p m l=([],0,false):=by rw [zvK,if_neg (by rw [h];exact Bool.false_ne_true)]
theorem zvS {p:Int} {m:List Int} {l:List DDuty} {w:List Nat} {k:Nat} (h:zvJ p m l=true) (hw:zvI (zvH p m l) l.length=some (w,k)):zvK p m l=(zs w,(k:Int),true):=by rw [zvK,if_pos h,hw]
theorem zvT {p:Int} {m:List Int} {l:List DDuty} (h:zvJ p m l=true):(zvK p m l).2.2=true:=by
  obtain ⟨w,hw⟩:=Option.isSome_iff_exists.1 (zvO (both:=zvH p m l) (n:=l.length))
  rw [zvS h hw]
theorem zvU {e:TypeId} {h h':Hp} {s:Sl Int} (H:RowAt e h' s) (hf:∀ g,s.a=some ⟨g,0,none⟩→h g=none):Mine h h' s:=by
  by_cases hl:s.l=[]
  · rcases s with ⟨a,c,l⟩
    simp only at hl;subst hl;exact Mine.nil
  · obtain ⟨h1,h2,⟨ha,hl',hc⟩|⟨g,cur,ha,hb,hsz,htk⟩⟩:=H
    · exact (hl hl').elim
    · have e0:s.l.flatMap (Foot.foot (α:=Int))=[]:=by rw [List.flatMap_eq_nil_iff];exact fun x _=>rfl
      have e1:Foot.foot s=[g]:=by
        rw [show Foot.foot s=_ from Sl.foot_ne hl,e0]
        simp [Sl.blkOf,ha]
      refine ⟨fun _=>⟨⟨g,cur,e,ha,hb,hsz⟩,fun x _=>trivial⟩,fun b hb'=>?_,by rw [e1];simp⟩
      rw [e1,List.mem_singleton] at hb'
      subst hb';exact hf _ ha
theorem zvV (p:Int) (m:Sl Int) (a:Sl DDuty) (h:Hp) (hm:m.Ok h) (ha:a.Ok h):Ct Try.prog 43 [.int .i64 p,m.val,a.val] h fun v h'=>v=.bool (zvJ p m.l a.l)∧h'=h:=by
  refine zdn (fun A W=>by simp) Try.func43 rfl rfl (by simp) fun W0=>?_
  repeat' first|refine zie rfl ?_|refine zc4 rfl ?_|refine zc7 ?_|refine zc8 ?_|refine zc5 ?_|refine zc6 ?_|refine zhF (fun _=>zur a _ ha) ?_|refine zhF (fun _=>zre _ _) ?_|refine zhF (fun _=>zr0 m _ hm) ?_|(simp (maxSteps:=2000000) only [go_sem,Nat.reduceAdd,Nat.reduceMul,Nat.reduceBEq,Nat.reduceLeDiff,Nat.reduceLT,Nat.reduceEqDiff];try rfl)|refine zc3 ?_|(refine And.intro ?_ ?_;focus (intros;simp_all only [Bool.or_eq_false_iff,Bool.or_eq_true,Bool.and_eq_true,and_self,true_and,and_true];done))
  congr 1;rw [Bool.eq_iff_iff];simp only [zvJ,In,Bool.and_eq_true,Bool.or_eq_true,Bool.not_eq_true',decide_eq_true_eq,decide_eq_false_iff_not,beq_iff_eq,and_assoc]
theorem zvW (p:Int) (m:Sl Int) (a:Sl DDuty) (h:Hp) (hm:m.Ok h) (ha:a.Ok h):Ct Try.prog 8 [.int .i64 p,m.val,a.val] h fun v h'=>∃ s:Sl Int,v=.tuple #[s.val,.int .i64 (zvK p m.l a.l).2.1,.bool (zvK p m.l a.l).2.2]∧s.l=(zvK p m.l a.l).1∧s.Ok h'∧Mine h h' s:=by
  refine zdn (fun A W=>by simp) Try.func8 rfl rfl (by simp) fun W0=>?_
  repeat' first|refine zie rfl ?_|refine zc4 rfl ?_|refine zc7 ?_|refine zc8 ?_|refine zc5 ?_|refine zc6 ?_|refine zhF (fun _=>zup a _ ha) ?_|refine zhF (fun _=>zrZ p m _ hm) ?_|(simp (maxSteps:=2000000) only [go_sem,Nat.reduceAdd,Nat.reduceMul,Nat.reduceBEq,Nat.reduceLeDiff,Nat.reduceLT,Nat.reduceEqDiff];try rfl)|refine zc3 ?_|(refine And.intro ?_ ?_;focus (intros;simp_all only [Bool.or_eq_false_iff,Bool.or_eq_true,Bool.and_eq_true,and_self,true_and,and_true];done))
  refine zc9 rfl (fun hq=>?_) (fun hq=>?_)
  · rw [zvR (by
      rw [zvJ]
      simp only [Bool.or_eq_true,Bool.not_eq_true'] at hq
      rcases hq with hq|hq
      · rw [hq];rfl
      · rw [hq,Bool.and_false])]
    repeat' first|refine zie rfl ?_|refine zc4 rfl ?_|refine zc7 ?_|refine zc8 ?_|refine zc5 ?_|refine zc6 ?_|(simp (maxSteps:=2000000) only [go_sem,Nat.reduceAdd,Nat.reduceMul,Nat.reduceBEq,Nat.reduceLeDiff,Nat.reduceLT,Nat.reduceEqDiff];try rfl)|refine zc3 ?_|(refine And.intro ?_ ?_;focus (intros;simp_all only [Bool.or_eq_false_iff,Bool.or_eq_true,Bool.and_eq_true,and_self,true_and,and_true];done))
    exact ⟨⟨none,0,[]⟩,rfl,rfl,zmy,Mine.nil⟩
  simp only [Bool.or_eq_false_iff,Bool.not_eq_false'] at hq
  have hcov:zvJ p m.l a.l=true:=by rw [zvJ,hq.1,hq.2];rfl
  obtain ⟨hD,hP,hT⟩:=zvQ hcov
  obtain ⟨h12,hall⟩:=zvP hD
  repeat' first|refine zie rfl ?_|refine zc4 rfl ?_|refine zc7 ?_|refine zc8 ?_|refine zc5 ?_|refine zc6 ?_|(simp (maxSteps:=2000000) only [go_sem,Nat.reduceAdd,Nat.reduceMul,Nat.reduceBEq,Nat.reduceLeDiff,Nat.reduceLT,Nat.reduceEqDiff];try rfl)|refine zc3 ?_|(refine And.intro ?_ ?_;focus (intros;simp_all only [Bool.or_eq_false_iff,Bool.or_eq_true,Bool.and_eq_true,and_self,true_and,and_true];done))
  refine zkr (zuy p m a _ hm hP hT ha h12 hall) rfl ?_
  rintro v h1 le1 ⟨bo,rfl,hbm,hbok⟩
  have hbn:bo.l.length=a.l.length:=by have:=congrArg List.length hbm;simpa [zux] using this
  have hbl:∀ i (hi:i < bo.l.length),bo.l[i].l.length=a.l.length∧∀ k (hk:k < bo.l[i].l.length),k < i→bo.l[i].l[k]=zvH p m.l a.l i k:=fun i hi=>by
    have e:bo.l[i].l=a.l.map fun e=>fol2 p m.l (a.l[i]'(by omega)) e:=by
      have:=congrArg (fun l=>l[i]?) hbm
      simp only [zux,List.getElem?_map,List.getElem?_eq_getElem hi,List.getElem?_eq_getElem (show i < a.l.length by omega),Option.map_some] at this
      exact Option.some.inj this
    refine ⟨by rw [e,List.length_map],fun k hk hki=>?_⟩
    have hk':k < a.l.length:=by rw [e,List.length_map] at hk;exact hk
    simp only [e,List.getElem_map]
    rw [zvH,dget (by omega),dget hk']
  repeat' first|refine zie rfl ?_|refine zc4 rfl ?_|refine zc7 ?_|refine zc8 ?_|refine zc5 ?_|refine zc6 ?_|(simp (maxSteps:=2000000) only [go_sem,Nat.reduceAdd,Nat.reduceMul,Nat.reduceBEq,Nat.reduceLeDiff,Nat.reduceLT,Nat.reduceEqDiff];try rfl)|refine zc3 ?_|(refine And.intro ?_ ?_;focus (intros;simp_all only [Bool.or_eq_false_iff,Bool.or_eq_true,Bool.and_eq_true,and_self,true_and,and_true];done))
  refine zma (ι:=Nat × Hp) (fun i=>⟨[(2,true,.c (.v a.val)),(6,true,.c (.v (.slice none 0 0))),(7,true,.c (.v (.int .i64 0))),(8,true,.c (.v (.bool false))),(9,true,.c (.v bo.val)),(10,true,.c (.v (.int .i64 i.1)))],[],i.2,0⟩) (fun i=>i.1≤a.l.length+1∧h1.le i.2∧∀ j,j < i.1→zty (zvH p m.l a.l) j a.l.length []=none) (fun i=>a.l.length+1 - i.1) (0,h1) ⟨Nat.zero_le _,Hp.le_refl _,fun c hc=>absurd hc (Nat.not_lt_zero _)⟩ [] ?_ ?_
  · simp (maxSteps:=2000000) only [go_sem,Nat.reduceAdd,Nat.reduceMul,Nat.reduceBEq,Nat.reduceLeDiff,Nat.reduceLT,Nat.reduceEqDiff]
    repeat' first|exact rfl|exact trivial|assumption|decide|refine And.intro ?_ ?_
  rintro ⟨k,hk⟩ ⟨hkn,hle,hno⟩
  simp only at hkn hle hno
  repeat' first|refine zie rfl ?_|refine zc4 rfl ?_|refine zc7 ?_|refine zc8 ?_|refine zc5 ?_|refine zc6 ?_|(simp (maxSteps:=2000000) only [go_sem,Nat.reduceAdd,Nat.reduceMul,Nat.reduceBEq,Nat.reduceLeDiff,Nat.reduceLT,Nat.reduceEqDiff];try rfl)|refine zc3 ?_|(refine And.intro ?_ ?_;focus (intros;simp_all only [Bool.or_eq_false_iff,Bool.or_eq_true,Bool.and_eq_true,and_self,true_and,and_true];done))
  refine zc9 rfl (fun hd=>?_) (fun hd=>?_)
  · have hlt:k≤a.l.length:=by have:=of_decide_eq_true hd;omega
    refine zc5 ?_
    simp (maxSteps:=2000000) only [go_sem,Nat.reduceAdd,Nat.reduceMul,Nat.reduceBEq,Nat.reduceLeDiff,Nat.reduceLT,Nat.reduceEqDiff]
    refine zc3 ?_
    refine zc8 ?_
    refine zsB [0,2] rfl ?_
    simp (maxSteps:=2000000) only [go_sem,Nat.reduceAdd,Nat.reduceMul,Nat.reduceBEq,Nat.reduceLeDiff,Nat.reduceLT,Nat.reduceEqDiff]
    refine fun ad cap g1 H=>?_
    have H':Pub hk _ (Enc.size Int) ([]:List Int).length (([]:List Int).flatMap Enc.enc) ad cap g1:=H
    have k1:(Sl.mk ad cap ([]:List Int)).Ok g1:=Pub.sl (by decide) H' (fun x hx=>by cases hx)
    refine zkr (zve (zvH p m.l a.l) bo a.l.length hbn hbl h12 k (by omega) a.l.length (Sl.mk ad cap []) [] g1 (hbok.mono (Hp.le_trans hle H.le)) k1 rfl (by simp) (fun x hx=>by cases hx)) rfl ?_
    rintro v g2 le2 Hout
    cases hr:zty (zvH p m.l a.l) k a.l.length [] with
    | none =>
      rw [hr] at Hout
      have Hout:v=.tuple #[.slice none 0 0,.bool false]:=Hout
      subst Hout
      simp (maxSteps:=2000000) only [go_sem,Nat.reduceAdd,Nat.reduceMul,Nat.reduceBEq,Nat.reduceLeDiff,Nat.reduceLT,Nat.reduceEqDiff]
      repeat' first|refine zie rfl ?_|refine zc4 rfl ?_|refine zc7 ?_|refine zc8 ?_|refine zc5 ?_|refine zc6 ?_|(simp (maxSteps:=2000000) only [go_sem,Nat.reduceAdd,Nat.reduceMul,Nat.reduceBEq,Nat.reduceLeDiff,Nat.reduceLT,Nat.reduceEqDiff];try rfl)|refine zc3 ?_|(refine And.intro ?_ ?_;focus (intros;simp_all only [Bool.or_eq_false_iff,Bool.or_eq_true,Bool.and_eq_true,and_self,true_and,and_true];done))
      refine zc9 rfl (fun hq=>?_) (fun hq=>?_)
      · cases hq
      repeat' first|refine zie rfl ?_|refine zc4 rfl ?_|refine zc7 ?_|refine zc8 ?_|refine zc5 ?_|refine zc6 ?_|(simp (maxSteps:=2000000) only [go_sem,Nat.reduceAdd,Nat.reduceMul,Nat.reduceBEq,Nat.reduceLeDiff,Nat.reduceLT,Nat.reduceEqDiff];try rfl)|refine zc3 ?_|(refine And.intro ?_ ?_;focus (intros;simp_all only [Bool.or_eq_false_iff,Bool.or_eq_true,Bool.and_eq_true,and_self,true_and,and_true];done))
      refine ⟨(k+1,g2),[],⟨by omega,Hp.le_trans hle (Hp.le_trans H.le le2),fun j hj=>?_⟩,by simp only;omega,?_⟩
      · rcases Nat.lt_or_ge j k with h1|h1
        · exact hno j h1
        · obtain rfl:j=k:=by omega
          exact hr
      simp (maxSteps:=2000000) only [go_sem,Nat.reduceAdd,Nat.reduceMul,Nat.reduceBEq,Nat.reduceLeDiff,Nat.reduceLT,Nat.reduceEqDiff]
      refine ⟨zjB (zjA (n:=4096) (k:=k) (by omega) (by omega)),Hp.le_trans le1 (Hp.le_trans hle (Hp.le_trans H.le le2)),?_⟩
      repeat' first|exact rfl|exact trivial|assumption|decide|refine And.intro ?_ ?_
    | some w =>
      rw [hr] at Hout
      obtain ⟨s,rfl,hs1,hs2,hs3⟩:=Hout
      simp (maxSteps:=2000000) only [go_sem,Nat.reduceAdd,Nat.reduceMul,Nat.reduceBEq,Nat.reduceLeDiff,Nat.reduceLT,Nat.reduceEqDiff]
      repeat' first|refine zie rfl ?_|refine zc4 rfl ?_|refine zc7 ?_|refine zc8 ?_|refine zc5 ?_|refine zc6 ?_|(simp (maxSteps:=2000000) only [go_sem,Nat.reduceAdd,Nat.reduceMul,Nat.reduceBEq,Nat.reduceLeDiff,Nat.reduceLT,Nat.reduceEqDiff];try rfl)|refine zc3 ?_|(refine And.intro ?_ ?_;focus (intros;simp_all only [Bool.or_eq_false_iff,Bool.or_eq_true,Bool.and_eq_true,and_self,true_and,and_true];done))
      refine zc9 rfl (fun hq=>?_) (fun hq=>?_)
      case refine_2=>cases hq
      repeat' first|refine zie rfl ?_|refine zc4 rfl ?_|refine zc7 ?_|refine zc8 ?_|refine zc5 ?_|refine zc6 ?_|(simp (maxSteps:=2000000) only [go_sem,Nat.reduceAdd,Nat.reduceMul,Nat.reduceBEq,Nat.reduceLeDiff,Nat.reduceLT,Nat.reduceEqDiff];try rfl)|refine zc3 ?_|(refine And.intro ?_ ?_;focus (intros;simp_all only [Bool.or_eq_false_iff,Bool.or_eq_true,Bool.and_eq_true,and_self,true_and,and_true];done))
      rw [zvS hcov (zvM hno hr hlt)]
      refine ⟨s,rfl,hs1,hs2,?_⟩
      rcases hs3 with h3|rfl
      · exact h3.back (Hp.le_trans le1 (Hp.le_trans hle H.le))
      · exact Mine.nil
  · exfalso
    have hge:a.l.length < k:=by have:=of_decide_eq_false hd;omega
    obtain ⟨w,hw⟩:=Option.isSome_iff_exists.1 (zvL.2 (CovOn.id (both:=zvH p m.l a.l) (s:=fun i=>i < a.l.length) fun i hi=>hi))
    rw [hno _ hge] at hw;cases hw
theorem zvX (p:Int) (m:Sl Int) (a:Sl DDuty) (h:Hp) (hm:m.Ok h) (ha:a.Ok h):Ct Try.prog 11 [.int .i64 p,m.val,a.val] h fun v h'=>∃ s:Sl Int,v=.tuple #[s.val,.int .i64 (zvK p m.l a.l).2.1,.bool (zvK p m.l a.l).2.2]∧s.l=(zvK p m.l a.l).1∧s.Ok h'∧Mine h h' s:=by
  refine zdn (fun A W=>by simp) Try.func11 rfl rfl (by simp) fun W0=>?_
  repeat' first|refine zie rfl ?_|refine zc4 rfl ?_|refine zc7 ?_|refine zc8 ?_|refine zc5 ?_|refine zc6 ?_|refine zhF (fun _=>zvV p m a _ hm ha) ?_|(simp (maxSteps:=2000000) only [go_sem,Nat.reduceAdd,Nat.reduceMul,Nat.reduceBEq,Nat.reduceLeDiff,Nat.reduceLT,Nat.reduceEqDiff];try rfl)|refine zc3 ?_|(refine And.intro ?_ ?_;focus (intros;simp_all only [Bool.or_eq_false_iff,Bool.or_eq_true,Bool.and_eq_true,and_self,true_and,and_true];done))
  refine zc9 rfl (fun hq=>?_) (fun hq=>?_)
  · rw [Bool.not_eq_true'] at hq
    rw [zvR hq]
    repeat' first|refine zie rfl ?_|refine zc4 rfl ?_|refine zc7 ?_|refine zc8 ?_|refine zc5 ?_|refine zc6 ?_|(simp (maxSteps:=2000000) only [go_sem,Nat.reduceAdd,Nat.reduceMul,Nat.reduceBEq,Nat.reduceLeDiff,Nat.reduceLT,Nat.reduceEqDiff];try rfl)|refine zc3 ?_|(refine And.intro ?_ ?_;focus (intros;simp_all only [Bool.or_eq_false_iff,Bool.or_eq_true,Bool.and_eq_true,and_self,true_and,and_true];done))
    exact ⟨⟨none,0,[]⟩,rfl,rfl,zmy,Mine.nil⟩
  rw [Bool.not_eq_false'] at hq
  have hcov:=hq
  obtain ⟨hD,hP,hT⟩:=zvQ hcov
  obtain ⟨h12,hall⟩:=zvP hD
  repeat' first|refine zie rfl ?_|refine zc4 rfl ?_|refine zc7 ?_|refine zc8 ?_|refine zc5 ?_|refine zc6 ?_|(simp (maxSteps:=2000000) only [go_sem,Nat.reduceAdd,Nat.reduceMul,Nat.reduceBEq,Nat.reduceLeDiff,Nat.reduceLT,Nat.reduceEqDiff];try rfl)|refine zc3 ?_|(refine And.intro ?_ ?_;focus (intros;simp_all only [Bool.or_eq_false_iff,Bool.or_eq_true,Bool.and_eq_true,and_self,true_and,and_true];done))
  refine zkr (zuM p m a _ hm hP hT ha h12 hall) rfl ?_
  rintro v h1 le1 ⟨sets,rfl,hsl,hsok,hsm⟩
  have hsn:sets.l.length=a.l.length:=by rw [hsl,parL,List.length_map,List.length_range]
  have hsb:∀ i (hi:i < sets.l.length) k,(sets.l[i].n).testBit k=(decide (k < a.l.length) && (decide (i ≠ k) && zvH p m.l a.l i k)):=fun i hi k=>by
    have:sets.l[i]=⟨zt8 (parP p m.l a.l i) a.l.length⟩:=by
      have e:=congrArg (fun l=>l[i]?) hsl
      simp only [parL,List.getElem?_eq_getElem hi,List.getElem?_map,List.getElem?_range (show i < a.l.length by omega),Option.map_some] at e
      exact Option.some.inj e
    rw [this]
    exact zt9
  repeat' first|refine zie rfl ?_|refine zc4 rfl ?_|refine zc7 ?_|refine zc8 ?_|refine zc5 ?_|refine zc6 ?_|(simp (maxSteps:=2000000) only [go_sem,Nat.reduceAdd,Nat.reduceMul,Nat.reduceBEq,Nat.reduceLeDiff,Nat.reduceLT,Nat.reduceEqDiff];try rfl)|refine zc3 ?_|(refine And.intro ?_ ?_;focus (intros;simp_all only [Bool.or_eq_false_iff,Bool.or_eq_true,Bool.and_eq_true,and_self,true_and,and_true];done))
  refine zkr (zu4 (zvH p m.l a.l) sets _ hsok (by omega) (fun i hi k=>by rw [hsb i hi k,hsn])) rfl ?_
  rintro v h2 le2 ⟨⟨mm,rfl,hmm⟩,rfl⟩
  rw [hsn] at hmm
  obtain ⟨w,hw1,hw2,hmn⟩:=zvN hmm
  simp (maxSteps:=2000000) only [go_sem,Nat.reduceAdd,Nat.reduceMul,Nat.reduceBEq,Nat.reduceLeDiff,Nat.reduceLT,Nat.reduceEqDiff]
  refine zso 0 rfl rfl fun g hg hown=>?_
  simp (maxSteps:=2000000) only [go_sem,Nat.reduceAdd,Nat.reduceMul,Nat.reduceBEq,Nat.reduceLeDiff,Nat.reduceLT,Nat.reduceEqDiff]
  have C0:CV h2 (h2.ins g (.cells #[sets.val,.int .i64 mm,(Sl.mk none 0 []:Sl U64).val,(Sl.mk none 0 []:Sl Int).val] 88 (0,0))) g sets mm (Sl.mk none 0 []) (Sl.mk none 0 []) :=
    ⟨⟨Hp.ins_le hg,hsok,hg,Hp.ins_same⟩,⟨⟨Nat.le_refl _,Nat.zero_le _,.inl ⟨rfl,rfl,rfl⟩⟩,fun g hg=>by cases hg⟩,⟨⟨Nat.le_refl _,Nat.zero_le _,.inl ⟨rfl,rfl,rfl⟩⟩,fun g hg=>by cases hg⟩,fun g hg=>by cases hg⟩
  first|refine zsB [0,1] rfl ?_|(refine zc3 ?_;refine zsA [0,1] rfl ?_)
  simp (maxSteps:=2000000) only [go_sem,Nat.reduceAdd,Nat.reduceMul,Nat.reduceBEq,Nat.reduceLeDiff,Nat.reduceLT,Nat.reduceEqDiff]
  refine zlE (zvG (zvH p m.l a.l) h2 g sets a.l.length mm hsn h12 (by omega) hsb a.l.length [] (Sl.mk none 0 []) (Sl.mk none 0 []) _ C0 rfl rfl (by simp) (fun p hp=>absurd hp (Nat.not_lt_zero _)) (Nat.zero_le _)) rfl (fun k hk=>⟨hk.2,.inl ?_⟩) ?_
  · have:h2 k=none:=hk.1
    cases hh:h k with
    | none=>first|rfl|exact hh
    | some o=>rw [le1 k o hh] at this;cases this
  rintro v h6 kp ⟨gs6,who6,C6,hout⟩
  rw [hw1] at hout
  obtain ⟨rfl,hw6⟩:=hout
  simp (maxSteps:=2000000) only [go_sem,Nat.reduceAdd,Nat.reduceMul,Nat.reduceBEq,Nat.reduceLeDiff,Nat.reduceLT,Nat.reduceEqDiff]
  obtain ⟨t0,t1,t2,t3⟩:=C6.flds
  have hok:=ztB (most:=mm) ⟨fun i hi=>absurd hi (Nat.not_lt_zero _),fun i k hi=>absurd hi (Nat.not_lt_zero _)⟩ hw1
  have hmok:who6.Ok h6:=C6.2.2.1.1.ok (by decide) fun x hx=>by
    rw [hw6] at hx
    obtain ⟨y,hy,rfl⟩:=List.mem_map.1 hx
    obtain ⟨i,hi,rfl⟩:=List.getElem_of_mem hy
    have:=hok.1.1 i hi
    show I64 _;unfold I64;omega
  repeat' first|refine zie rfl ?_|refine zc4 rfl ?_|refine zc7 ?_|refine zc8 ?_|refine zc5 ?_|refine zc6 ?_|(simp (maxSteps:=2000000) only [go_sem,Nat.reduceAdd,Nat.reduceMul,Nat.reduceBEq,Nat.reduceLeDiff,Nat.reduceLT,Nat.reduceEqDiff];try rfl)|refine zc3 ?_|(refine And.intro ?_ ?_;focus (intros;simp_all only [Bool.or_eq_false_iff,Bool.or_eq_true,Bool.and_eq_true,and_self,true_and,and_true];done))
  refine zte rfl ?_
  refine zs7 [0,4,1,5,2,6,3,7,8,9,10] rfl (by kernel_rfl) ?_
  simp (maxSteps:=2000000) only [go_sem,Nat.reduceAdd,Nat.reduceMul,Nat.reduceBEq,Nat.reduceLeDiff,Nat.reduceLT,Nat.reduceEqDiff,t1,t3,true_or,true_and]
  refine ztd (by kernel_rfl) ?_
  repeat' first|refine zie rfl ?_|refine zc4 rfl ?_|refine zc7 ?_|refine zc8 ?_|refine zc5 ?_|refine zc6 ?_|(simp (maxSteps:=2000000) only [go_sem,Nat.reduceAdd,Nat.reduceMul,Nat.reduceBEq,Nat.reduceLeDiff,Nat.reduceLT,Nat.reduceEqDiff];try rfl)|refine zc3 ?_|(refine And.intro ?_ ?_;focus (intros;simp_all only [Bool.or_eq_false_iff,Bool.or_eq_true,Bool.and_eq_true,and_self,true_and,and_true];done))
  rw [zvS hcov hw2]
  exact ⟨who6,rfl,hw6,hmok,zvU C6.2.2.1.1 fun g hg=>zmE le1 (C6.2.2.1.2 g hg).1⟩
end Go.Proofs.Ytjiggadgmmjnhaa
namespace Go.Proofs.Ytjiggadgmmjnhaa
open Go Go.SL
set_option maxHeartbeats 1000000
theorem zvY {s:DShip} {g:DSegment} (h:1≤g.minutes∧g.minutes≤240):1≤zr5 s g∧zr5 s g≤480:=by
  unfold zr5
  split
  · rw [zjz (by omega)];omega
  · omega
theorem zvZ {c:PChart} (h:zrC c=true) {i:Nat} (hi:i < c.segments.length):1≤(c.segments.getD i dG).minutes∧(c.segments.getD i dG).minutes≤240:=by
  simp only [zrC,Bool.and_eq_true,decide_eq_true_eq] at h
  have:=h.2 i hi
  simp only [zrB,zrz,Bool.and_eq_true,decide_eq_true_eq] at this
  exact ⟨this.1.2.2.2.2.2.2.2.1,this.1.2.2.2.2.2.2.2.2⟩
theorem zv0 {c:PChart} (h:zrC c=true):c.points.length≤8∧∀ i,i < c.segments.length→0≤(c.segments.getD i dG).a∧(c.segments.getD i dG).a < c.points.length∧0≤(c.segments.getD i dG).b∧(c.segments.getD i dG).b < c.points.length:=by
  simp only [zrC,Bool.and_eq_true,decide_eq_true_eq] at h
  refine ⟨h.1.1.1,fun i hi=>?_⟩
  have:=h.2 i hi
  simp only [zrB,zrz,Bool.and_eq_true,decide_eq_true_eq] at this
  exact ⟨this.1.1,this.1.2.1,this.1.2.2.1,this.1.2.2.2.1⟩
theorem zv1 {c:PChart} {f:List DShip} {p:DPassage} (h:zr7 c f p=true):zrC c=true∧0≤p.seg∧p.seg < c.segments.length∧0≤p.start∧p.start < p.fin∧p.fin≤2880:=by
  rw [zr7,Bool.and_eq_true,Bool.and_eq_true,zr6,Bool.and_eq_true,decide_eq_true_eq,decide_eq_true_eq] at h
  obtain ⟨⟨h1,h2⟩,⟨h3,h4,h5,h6,h7,h8,h9⟩,h10⟩:=h
  have hm:=zvY (s:=f.getD p.ship.toNat dH) (zvZ h1 (i:=p.seg.toNat) (by omega))
  rw [zjz (by omega)] at h10
  exact ⟨h1,h5,h6,h7,by omega,h9⟩
theorem zv2 {c:PChart} (h:zrC c=true) {p:DPassage} (h0:0≤p.seg) (h1:p.seg < c.segments.length):0≤(zr4 c p).1∧(zr4 c p).1 < 8∧0≤(zr4 c p).2∧(zr4 c p).2 < 8:=by
  obtain ⟨h2,h3⟩:=zv0 h
  have:=h3 p.seg.toNat (by omega)
  unfold zr4
  split <;> (dsimp only;omega)
theorem zv3 {c:PChart} {f:List DShip} {p q:DPassage} (h:zr7 c f p=true) (h2:zr7 c f q=true) (hpq:p.start < q.fin):zuk (zsk c p q)=true:=by
  obtain ⟨a1,a2,a3,a4,a5,a6⟩:=zv1 h
  obtain ⟨_,b2,b3,b4,b5,b6⟩:=zv1 h2
  have e1:=zv2 a1 a2 a3
  have e2:=zv2 a1 b2 b3
  unfold zuk zsk
  rw [decide_eq_true_eq]
  dsimp only
  omega
theorem zv4 {c:PChart} {f:List DShip} {l:List DPassage} {d:List DDuty} (h:ztj c f l=some d):zul d=true:=by
  rw [ztj] at h
  split at h
  · rename_i hq
    simp only [Option.some.injEq] at h
    subst h
    rw [zul,Bool.and_eq_true,decide_eq_true_eq,List.all_eq_true]
    refine ⟨hq.2,fun x hx=>?_⟩
    obtain ⟨y,hy,hxy⟩:=List.mem_flatMap.1 hx
    obtain ⟨i,hi,rfl⟩:=List.getElem_of_mem hy
    have hp:=hq.1 i hi
    rw [pOk,qget hi] at hp
    rw [(List.mem_replicate.1 hxy).2]
    exact zv3 hp hp (zv1 hp).2.2.2.2.1
  · cases h
def zv5 (w:PCrew) (c:PChart) (f:List DShip) (l:List DPassage):Int:=match ztj c f l with
  | none=>-1
  | some d=>if zrQ w=true then (zvK 0 w.moves d).2.1 else -1
theorem zv6 {w:PCrew} (h:zrQ w=true):In w.rest 0 2880=true∧zrP w.moves=true:=by
  simp only [zrQ,Bool.and_eq_true] at h
  exact h.2
theorem zv7 (w:DCrew):(Con.con w).moves=w.moves.l:=zkA
theorem zv8 (w:DCrew) (c:DChart) (f:Sl DShip) (a:Sl DPassage) (h:Hp) (hw:Enc.ok h w) (hc:Enc.ok h c) (hf:f.Ok h) (ha:a.Ok h):Ct Try.prog 21 [w.v,c.v,f.val,a.val] h fun v h'=>v=.int .i64 (zv5 (Con.con w) (Con.con c) f.l a.l)∧h'=h:=by
  refine Ct.forget ?_
  refine zdn (fun A W=>by simp) Try.func21 rfl rfl (by simp) fun W0=>?_
  repeat' first|refine zie rfl ?_|refine zc4 rfl ?_|refine zc7 ?_|refine zc8 ?_|refine zc5 ?_|refine zc6 ?_|(simp (maxSteps:=2000000) only [go_sem,Nat.reduceAdd,Nat.reduceMul,Nat.reduceBEq,Nat.reduceLeDiff,Nat.reduceLT,Nat.reduceEqDiff];try rfl)|refine zc3 ?_|(refine And.intro ?_ ?_;focus (intros;simp_all only [Bool.or_eq_false_iff,Bool.or_eq_true,Bool.and_eq_true,and_self,true_and,and_true];done))
  refine zkr (zts c f a _ hc hf ha) rfl ?_
  rintro v h1 le1 ⟨s,rfl,e1,ok1,m1⟩
  have hw1:Enc.ok h1 w:=Enc.mono le1 hw
  repeat' first|refine zie rfl ?_|refine zc4 rfl ?_|refine zc7 ?_|refine zc8 ?_|refine zc5 ?_|refine zc6 ?_|refine zhF (fun _=>zr2 w _ hw1) ?_|(simp (maxSteps:=2000000) only [go_sem,Nat.reduceAdd,Nat.reduceMul,Nat.reduceBEq,Nat.reduceLeDiff,Nat.reduceLT,Nat.reduceEqDiff];try rfl)|refine zc3 ?_|(refine And.intro ?_ ?_;focus (intros;simp_all only [Bool.or_eq_false_iff,Bool.or_eq_true,Bool.and_eq_true,and_self,true_and,and_true];done))
  refine zc9 rfl (fun hq=>?_) (fun hq=>?_)
  · simp only [Bool.or_eq_true,Bool.not_eq_true',Option.isSome_eq_false_iff,Option.isNone_iff_eq_none] at hq
    repeat' first|refine zie rfl ?_|refine zc4 rfl ?_|refine zc7 ?_|refine zc8 ?_|refine zc5 ?_|refine zc6 ?_|(simp (maxSteps:=2000000) only [go_sem,Nat.reduceAdd,Nat.reduceMul,Nat.reduceBEq,Nat.reduceLeDiff,Nat.reduceLT,Nat.reduceEqDiff];try rfl)|refine zc3 ?_|(refine And.intro ?_ ?_;focus (intros;simp_all only [Bool.or_eq_false_iff,Bool.or_eq_true,Bool.and_eq_true,and_self,true_and,and_true];done))
    rw [zv5]
    rcases hq with hq|hq
    · cases ztj (Con.con c) f.l a.l with
      | none=>rfl
      | some d=>dsimp only;rw [if_neg (by rw [hq];exact Bool.false_ne_true)]
    · rw [hq]
  simp only [Bool.or_eq_false_iff,Bool.not_eq_false'] at hq
  obtain ⟨hC,hS⟩:=hq
  obtain ⟨d,hd⟩:=Option.isSome_iff_exists.1 hS
  rw [hd] at e1
  have e1:s.l=d:=e1
  have hfine:(zvK 0 w.moves.l s.l).2.2=true:=zvT (by rw [zvJ,e1,zv4 hd,← zv7,(zv6 hC).2];rfl)
  repeat' first|refine zie rfl ?_|refine zc4 rfl ?_|refine zc7 ?_|refine zc8 ?_|refine zc5 ?_|refine zc6 ?_|(simp (maxSteps:=2000000) only [go_sem,Nat.reduceAdd,Nat.reduceMul,Nat.reduceBEq,Nat.reduceLeDiff,Nat.reduceLT,Nat.reduceEqDiff];try rfl)|refine zc3 ?_|(refine And.intro ?_ ?_;focus (intros;simp_all only [Bool.or_eq_false_iff,Bool.or_eq_true,Bool.and_eq_true,and_self,true_and,and_true];done))
  refine zkr (zvW 0 w.moves s _ hw1.2.2.2 ok1) rfl ?_
  rintro v h2 le2 ⟨s2,rfl,e2,ok2,m2⟩
  rw [hfine]
  repeat' first|refine zie rfl ?_|refine zc4 rfl ?_|refine zc7 ?_|refine zc8 ?_|refine zc5 ?_|refine zc6 ?_|(simp (maxSteps:=2000000) only [go_sem,Nat.reduceAdd,Nat.reduceMul,Nat.reduceBEq,Nat.reduceLeDiff,Nat.reduceLT,Nat.reduceEqDiff];try rfl)|refine zc3 ?_|(refine And.intro ?_ ?_;focus (intros;simp_all only [Bool.or_eq_false_iff,Bool.or_eq_true,Bool.and_eq_true,and_self,true_and,and_true];done))
  refine zc9 rfl (fun hq=>?_) (fun hq=>?_)
  · cases hq
  repeat' first|refine zie rfl ?_|refine zc4 rfl ?_|refine zc7 ?_|refine zc8 ?_|refine zc5 ?_|refine zc6 ?_|(simp (maxSteps:=2000000) only [go_sem,Nat.reduceAdd,Nat.reduceMul,Nat.reduceBEq,Nat.reduceLeDiff,Nat.reduceLT,Nat.reduceEqDiff];try rfl)|refine zc3 ?_|(refine And.intro ?_ ?_;focus (intros;simp_all only [Bool.or_eq_false_iff,Bool.or_eq_true,Bool.and_eq_true,and_self,true_and,and_true];done))
  rw [zv5,hd]
  dsimp only
  rw [if_pos hC,zv7,e1]
theorem zv9 (w:DCrew) (c:DChart) (f:Sl DShip) (a:Sl DPassage) (h:Hp) (hw:Enc.ok h w) (hc:Enc.ok h c) (hf:f.Ok h) (ha:a.Ok h):Ct Try.prog 26 [w.v,c.v,f.val,a.val] h fun v h'=>v=.int .i64 (zv5 (Con.con w) (Con.con c) f.l a.l)∧h'=h:=by
  refine Ct.forget ?_
  refine zdn (fun A W=>by simp) Try.func26 rfl rfl (by simp) fun W0=>?_
  repeat' first|refine zie rfl ?_|refine zc4 rfl ?_|refine zc7 ?_|refine zc8 ?_|refine zc5 ?_|refine zc6 ?_|(simp (maxSteps:=2000000) only [go_sem,Nat.reduceAdd,Nat.reduceMul,Nat.reduceBEq,Nat.reduceLeDiff,Nat.reduceLT,Nat.reduceEqDiff];try rfl)|refine zc3 ?_|(refine And.intro ?_ ?_;focus (intros;simp_all only [Bool.or_eq_false_iff,Bool.or_eq_true,Bool.and_eq_true,and_self,true_and,and_true];done))
  refine zkr (ztt c f a _ hc hf ha) rfl ?_
  rintro v h1 le1 ⟨s,rfl,e1,ok1,m1⟩
  have hw1:Enc.ok h1 w:=Enc.mono le1 hw
  repeat' first|refine zie rfl ?_|refine zc4 rfl ?_|refine zc7 ?_|refine zc8 ?_|refine zc5 ?_|refine zc6 ?_|refine zhF (fun _=>zr3 w _ hw1) ?_|(simp (maxSteps:=2000000) only [go_sem,Nat.reduceAdd,Nat.reduceMul,Nat.reduceBEq,Nat.reduceLeDiff,Nat.reduceLT,Nat.reduceEqDiff];try rfl)|refine zc3 ?_|(refine And.intro ?_ ?_;focus (intros;simp_all only [Bool.or_eq_false_iff,Bool.or_eq_true,Bool.and_eq_true,and_self,true_and,and_true];done))
  refine zc9 rfl (fun hq=>?_) (fun hq=>?_)
  · simp only [Bool.or_eq_true,Bool.not_eq_true',Option.isSome_eq_false_iff,Option.isNone_iff_eq_none] at hq
    repeat' first|refine zie rfl ?_|refine zc4 rfl ?_|refine zc7 ?_|refine zc8 ?_|refine zc5 ?_|refine zc6 ?_|(simp (maxSteps:=2000000) only [go_sem,Nat.reduceAdd,Nat.reduceMul,Nat.reduceBEq,Nat.reduceLeDiff,Nat.reduceLT,Nat.reduceEqDiff];try rfl)|refine zc3 ?_|(refine And.intro ?_ ?_;focus (intros;simp_all only [Bool.or_eq_false_iff,Bool.or_eq_true,Bool.and_eq_true,and_self,true_and,and_true];done))
    rw [zv5]
    rcases hq with hq|hq
    · rw [hq]
    · cases ztj (Con.con c) f.l a.l with
      | none=>rfl
      | some d=>dsimp only;rw [if_neg (by rw [hq];exact Bool.false_ne_true)]
  simp only [Bool.or_eq_false_iff,Bool.not_eq_false'] at hq
  obtain ⟨hS,hC⟩:=hq
  obtain ⟨d,hd⟩:=Option.isSome_iff_exists.1 hS
  rw [hd] at e1
  have e1:s.l=d:=e1
  repeat' first|refine zie rfl ?_|refine zc4 rfl ?_|refine zc7 ?_|refine zc8 ?_|refine zc5 ?_|refine zc6 ?_|(simp (maxSteps:=2000000) only [go_sem,Nat.reduceAdd,Nat.reduceMul,Nat.reduceBEq,Nat.reduceLeDiff,Nat.reduceLT,Nat.reduceEqDiff];try rfl)|refine zc3 ?_|(refine And.intro ?_ ?_;focus (intros;simp_all only [Bool.or_eq_false_iff,Bool.or_eq_true,Bool.and_eq_true,and_self,true_and,and_true];done))
  refine zkr (zvX 0 w.moves s _ hw1.2.2.2 ok1) rfl ?_
  rintro v h2 le2 ⟨s2,rfl,e2,ok2,m2⟩
  repeat' first|refine zie rfl ?_|refine zc4 rfl ?_|refine zc7 ?_|refine zc8 ?_|refine zc5 ?_|refine zc6 ?_|(simp (maxSteps:=2000000) only [go_sem,Nat.reduceAdd,Nat.reduceMul,Nat.reduceBEq,Nat.reduceLeDiff,Nat.reduceLT,Nat.reduceEqDiff];try rfl)|refine zc3 ?_|(refine And.intro ?_ ?_;focus (intros;simp_all only [Bool.or_eq_false_iff,Bool.or_eq_true,Bool.and_eq_true,and_self,true_and,and_true];done))
  rw [zv5,hd]
  dsimp only
  rw [if_pos hC,zv7,e1]
def pilL (c:PChart) (f:List DShip) (l:List (List DPassage)):List DDuty:=(l.filter fun x=>decide (0 < x.length)).map fun x=>(zxt c f x).1
def zxA (c:PChart) (f:List DShip) (l:List (List DPassage)):Prop:=∀ x ∈ l,0 < x.length→(zxt c f x).2=true
noncomputable def zxB (w:PCrew) (c:PChart) (f:List DShip) (l:List (List DPassage)):Int:=open Classical in
  if zrQ w=true∧zxA c f l∧(pilL c f l).length≤12 then (zvK w.rest w.moves (pilL c f l)).2.1 else -1
noncomputable def zxT (w:PCrew) (c:PChart) (f:List DShip) (l:List (List DPassage)):Bool:=In (zv5 w c f l.flatten) 0 w.tugs && In (zxB w c f l) 0 w.pilots
theorem zxC {c:PChart} {f:List DShip} {l:List DPassage} (hC:zxk c l=true) (hp:∀ i,i < l.length→pOk c f l i=true):∀ k,k < l.length→(l.getD 0 dQ).start < (l.getD k dQ).fin
  | 0,hk=>(zv1 (hp 0 hk)).2.2.2.2.1
  | k+1,hk=>by
    have ih:=zxC hC hp k (by omega)
    have h1:=(zv1 (hp (k+1) hk)).2.2.2.2.1
    have h2:=of_decide_eq_true (Bool.and_eq_true_iff.1 hC).2 (k+1) hk
    rw [chOk,Bool.and_eq_true] at h2
    have h3:=h2.2
    rw [chTo,Bool.or_eq_true,decide_eq_true_eq,Bool.and_eq_true,decide_eq_true_eq,decide_eq_true_eq] at h3
    simp only [Nat.add_sub_cancel] at h3
    rcases h3 with h3|h3
    · omega
    · have:=h3.2;omega
theorem zxD {c:PChart} {f:List DShip} {l:List DPassage} (h:(zxt c f l).2=true):zuk (zxt c f l).1=true:=by
  rw [zxt] at h ⊢
  split
  · rename_i hq
    simp only [Bool.and_eq_true,decide_eq_true_eq] at hq
    obtain ⟨⟨h0,hC⟩,hp⟩:=hq
    exact zv3 (hp 0 h0) (hp (l.length - 1) (by omega)) (zxC hC hp _ (by omega))
  · rename_i hq;rw [if_neg hq] at h;cases h
theorem zxE {c:PChart} {f:List DShip} {l:List (List DPassage)} (h:zxA c f l) (h12:(pilL c f l).length≤12):zul (pilL c f l)=true:=by
  rw [zul,Bool.and_eq_true,decide_eq_true_eq,List.all_eq_true]
  refine ⟨h12,fun x hx=>?_⟩
  obtain ⟨y,hy,rfl⟩:=List.mem_map.1 hx
  have:=List.mem_filter.1 hy
  exact zxD (h y this.1 (of_decide_eq_true this.2))
theorem zxF {c:PChart} {f:List DShip} {l:List (List DPassage)} {x:List DPassage} (h:0 < x.length):pilL c f (l ++ [x])=pilL c f l ++ [(zxt c f x).1]:=by
  rw [pilL,List.filter_append,List.map_append]
  simp [pilL,h]
theorem zxG {c:PChart} {f:List DShip} {l:List (List DPassage)} {x:List DPassage} (h:x.length=0):pilL c f (l ++ [x])=pilL c f l:=by
  rw [pilL,List.filter_append,List.map_append]
  simp [pilL,h]
theorem zxH {c:PChart} {f:List DShip} {l:List (List DPassage)}:(pilL c f l).length≤l.length:=by
  rw [pilL,List.length_map];exact List.length_filter_le _ _
theorem zxI (s:Sl (Sl DPassage)):Con.con s=s.l.map (·.l):=by
  show List.map _ _=_
  exact List.map_congr_left fun x _=>zsm x
theorem zxJ {l:List (Sl DPassage)} {k:Nat} (hk:k < l.length):(l.take (k+1)).map (·.l)=(l.take k).map (·.l) ++ [l[k].l]:=by rw [List.take_succ_eq_append_getElem hk,List.map_append];rfl
theorem zxK {c:PChart} {f:List DShip} {l:List (List DPassage)} {x:List DPassage} (h:zxA c f l) (hx:0 < x.length→(zxt c f x).2=true):zxA c f (l ++ [x]):=fun y hy h0=>by
  rcases List.mem_append.1 hy with hy|hy
  · exact h y hy h0
  · rw [List.mem_singleton.1 hy] at h0 ⊢;exact hx h0
theorem zxL {c:PChart} {f:List DShip} {w:PCrew} {l:List (List DPassage)} {x:List DPassage} (hx:x ∈ l) (h0:0 < x.length) (h:(zxt c f x).2=false):zxB w c f l=-1:=by
  rw [zxB,if_neg]
  rintro ⟨-,hp,-⟩
  rw [hp x hx h0] at h;cases h
theorem zxU {l:List DPassage} {u:Value} (hu:u ∈ l.flatMap Enc.enc):u.oneCell'=true:=by
  obtain ⟨x,_,hu⟩:=List.mem_flatMap.1 hu
  exact Enc.one x u hu
theorem zxV {a:Sl (Sl DPassage)} {B:Nat} (hz:Sz.sz (Con.con a)≤B):(a.l.flatMap (·.l)).length≤B∧a.l.length≤B:=by
  have key:∀ l:List (Sl DPassage),(l.flatMap (·.l)).length+l.length≤((l.map fun x=>Con.con x).map Sz.sz).sum+(l.map fun x=>Con.con x).length:=fun l=>by
    induction l with
    | nil=>simp
    | cons x l ih =>
      rw [List.flatMap_cons,List.length_append,List.map_cons,List.map_cons,List.sum_cons,List.length_cons,List.length_cons]
      have:x.l.length≤Sz.sz (Con.con x):=by
        rw [zmD];have:(Con.con x).length=x.l.length:=List.length_map ..;omega
      omega
  have h1:=key a.l
  rw [zmD] at hz
  have:Con.con a=a.l.map fun x=>Con.con x:=rfl
  rw [this] at hz
  omega
theorem zxM {c:DChart} {f:List DShip} {l:List (Sl DPassage)} {h:Hp} (hc:Enc.ok h c) (hl:∀ x ∈ l,x.Ok h):∀ d ∈ pilL (Con.con c) f (l.map (·.l)),Enc.ok h d:=fun d hd=>by
  obtain ⟨y,hy,rfl⟩:=List.mem_map.1 hd
  obtain ⟨x,hx,rfl⟩:=List.mem_map.1 (List.mem_filter.1 hy).1
  have:=zxz (f:=f) (h2:=h) hc (hl x hx)
  rwa [zsm] at this
theorem zxN (w:DCrew) (c:DChart) (f:Sl DShip) (a:Sl (Sl DPassage)) (h:Hp) (hw:Enc.ok h w) (hc:Enc.ok h c) (hf:f.Ok h) (ha:a.Ok h) (hz:a.l.length≤1048576):Ct Try.prog 32 [w.v,c.v,f.val,a.val] h fun v h'=>v=.int .i64 (zxB (Con.con w) (Con.con c) f.l (a.l.map (·.l)))∧h'=h:=by
  have hl:=ha.max
  refine Ct.forget ?_
  refine zdn (fun A W=>by simp) Try.func32 rfl rfl (by simp) fun W0=>?_
  repeat' first|refine zie rfl ?_|refine zc4 rfl ?_|refine zc7 ?_|refine zc8 ?_|refine zc5 ?_|refine zc6 ?_|refine zhF (fun _=>zr2 w _ hw) ?_|(simp (maxSteps:=2000000) only [go_sem,Nat.reduceAdd,Nat.reduceMul,Nat.reduceBEq,Nat.reduceLeDiff,Nat.reduceLT,Nat.reduceEqDiff];try rfl)|refine zc3 ?_|(refine And.intro ?_ ?_;focus (intros;simp_all only [Bool.or_eq_false_iff,Bool.or_eq_true,Bool.and_eq_true,and_self,true_and,and_true];done))
  refine zc9 rfl (fun hq=>?_) (fun hq=>?_)
  · rw [Bool.not_eq_true'] at hq
    rw [zxB,if_neg (fun H=>by rw [hq] at H;cases H.1)]
    repeat' first|refine zie rfl ?_|refine zc4 rfl ?_|refine zc7 ?_|refine zc8 ?_|refine zc5 ?_|refine zc6 ?_|(simp (maxSteps:=2000000) only [go_sem,Nat.reduceAdd,Nat.reduceMul,Nat.reduceBEq,Nat.reduceLeDiff,Nat.reduceLT,Nat.reduceEqDiff];try rfl)|refine zc3 ?_|(refine And.intro ?_ ?_;focus (intros;simp_all only [Bool.or_eq_false_iff,Bool.or_eq_true,Bool.and_eq_true,and_self,true_and,and_true];done))
  rw [Bool.not_eq_false'] at hq
  have hC:=hq
  repeat' first|refine zie rfl ?_|refine zc4 rfl ?_|refine zc7 ?_|refine zc8 ?_|refine zc5 ?_|refine zc6 ?_|(simp (maxSteps:=2000000) only [go_sem,Nat.reduceAdd,Nat.reduceMul,Nat.reduceBEq,Nat.reduceLeDiff,Nat.reduceLT,Nat.reduceEqDiff];try rfl)|refine zc3 ?_|(refine And.intro ?_ ?_;focus (intros;simp_all only [Bool.or_eq_false_iff,Bool.or_eq_true,Bool.and_eq_true,and_self,true_and,and_true];done))
  refine zma (ι:=Nat) (fun k=>⟨[(2,true,.c (.v f.val)),(4,true,.c (.p 0 0)),(5,true,.c (.p 1 0)),(8,true,.c (.v (.int .i64 0))),(9,true,.c (.s 2)),(21,true,.c (.v a.val)),(22,true,.c (.v (.int .i64 a.l.length))),(23,true,.c (.v (.int .i64 k)))],[(0,.box 48 [.v (.int .i64 w.tugs),.v (.int .i64 w.pilots),.v (.int .i64 w.rest),.v w.moves.val]),(1,.box 53 [.v c.points.val,.v c.segments.val]),(2,.row 79 4 (pilL (Con.con c) f.l ((a.l.take k).map (·.l))).length ((pilL (Con.con c) f.l ((a.l.take k).map (·.l))).flatMap Enc.enc))],h,3⟩) (fun k=>k≤a.l.length∧zxA (Con.con c) f.l ((a.l.take k).map (·.l))) (fun k=>a.l.length - k) 0 ⟨Nat.zero_le _,fun x hx=>by cases hx⟩ [0,1,2] ?_ ?_
  · simp (maxSteps:=2000000) only [go_sem,Nat.reduceAdd,Nat.reduceMul,Nat.reduceBEq,Nat.reduceLeDiff,Nat.reduceLT,Nat.reduceEqDiff]
    repeat' first|exact rfl|exact trivial|assumption|decide|refine And.intro ?_ ?_
  intro k hk
  have hpl:=zxH (c:=Con.con c) (f:=f.l) (l:=(a.l.take k).map (·.l))
  rw [List.length_map,List.length_take] at hpl
  repeat' first|refine zie rfl ?_|refine zc4 rfl ?_|refine zc7 ?_|refine zc8 ?_|refine zc5 ?_|refine zc6 ?_|(simp (maxSteps:=2000000) only [go_sem,Nat.reduceAdd,Nat.reduceMul,Nat.reduceBEq,Nat.reduceLeDiff,Nat.reduceLT,Nat.reduceEqDiff];try rfl)|refine zc3 ?_|(refine And.intro ?_ ?_;focus (intros;simp_all only [Bool.or_eq_false_iff,Bool.or_eq_true,Bool.and_eq_true,and_self,true_and,and_true];done))
  refine zc9 rfl (fun hd=>?_) (fun hd=>?_)
  · have hlt:=zjH hd
    have hok:=ha.el hlt
    repeat' first|refine zie rfl ?_|refine zc4 rfl ?_|refine zc7 ?_|refine zc8 ?_|refine zc5 ?_|refine zc6 ?_|(simp (maxSteps:=2000000) only [go_sem,Nat.reduceAdd,Nat.reduceMul,Nat.reduceBEq,Nat.reduceLeDiff,Nat.reduceLT,Nat.reduceEqDiff,zkQ ha hlt,ha.some hlt,hlt,Int.toNat_natCast];try rfl)|refine zc3 ?_|(refine And.intro ?_ ?_;focus (intros;simp_all only [Bool.or_eq_false_iff,Bool.or_eq_true,Bool.and_eq_true,and_self,true_and,and_true];done))
    refine zc9 rfl (fun hx=>?_) (fun hx=>?_)
    · have hx:a.l[k].l.length=0:=by have:=eq_of_beq hx;omega
      repeat' first|refine zie rfl ?_|refine zc4 rfl ?_|refine zc7 ?_|refine zc8 ?_|refine zc5 ?_|refine zc6 ?_|(simp (maxSteps:=2000000) only [go_sem,Nat.reduceAdd,Nat.reduceMul,Nat.reduceBEq,Nat.reduceLeDiff,Nat.reduceLT,Nat.reduceEqDiff];try rfl)|refine zc3 ?_|(refine And.intro ?_ ?_;focus (intros;simp_all only [Bool.or_eq_false_iff,Bool.or_eq_true,Bool.and_eq_true,and_self,true_and,and_true];done))
      refine ⟨k+1,[0,1,2],⟨hlt,by rw [zxJ hlt];exact zxK hk.2 (fun h0=>by omega)⟩,by omega,?_⟩
      simp (maxSteps:=2000000) only [go_sem,Nat.reduceAdd,Nat.reduceMul,Nat.reduceBEq,Nat.reduceLeDiff,Nat.reduceLT,Nat.reduceEqDiff]
      rw [zxJ hlt,zxG hx]
      repeat' first|exact zjB (zjA hlt (by omega))|exact rfl|exact trivial|assumption|decide|refine And.intro ?_ ?_
    have hx:0 < a.l[k].l.length:=by have:=ne_of_beq_false hx;omega
    have hmem:a.l[k].l ∈ a.l.map (·.l):=List.mem_map_of_mem (List.getElem_mem hlt)
    repeat' first|refine zie rfl ?_|refine zc4 rfl ?_|refine zc7 ?_|refine zc8 ?_|refine zc5 ?_|refine zc6 ?_|refine zhF (fun _=>zxx c f a.l[k] _ hc hf hok) ?_|(simp (maxSteps:=2000000) only [go_sem,Nat.reduceAdd,Nat.reduceMul,Nat.reduceBEq,Nat.reduceLeDiff,Nat.reduceLT,Nat.reduceEqDiff];try rfl)|refine zc3 ?_|(refine And.intro ?_ ?_;focus (intros;simp_all only [Bool.or_eq_false_iff,Bool.or_eq_true,Bool.and_eq_true,and_self,true_and,and_true];done))
    refine zc9 rfl (fun hy=>?_) (fun hy=>?_)
    · rw [Bool.not_eq_true'] at hy
      rw [zxL hmem hx hy]
      repeat' first|refine zie rfl ?_|refine zc4 rfl ?_|refine zc7 ?_|refine zc8 ?_|refine zc5 ?_|refine zc6 ?_|(simp (maxSteps:=2000000) only [go_sem,Nat.reduceAdd,Nat.reduceMul,Nat.reduceBEq,Nat.reduceLeDiff,Nat.reduceLT,Nat.reduceEqDiff];try rfl)|refine zc3 ?_|(refine And.intro ?_ ?_;focus (intros;simp_all only [Bool.or_eq_false_iff,Bool.or_eq_true,Bool.and_eq_true,and_self,true_and,and_true];done))
    rw [Bool.not_eq_false'] at hy
    repeat' first|refine zie rfl ?_|refine zc4 rfl ?_|refine zc7 ?_|refine zc8 ?_|refine zc5 ?_|refine zc6 ?_|(simp (maxSteps:=2000000) only [go_sem,Nat.reduceAdd,Nat.reduceMul,Nat.reduceBEq,Nat.reduceLeDiff,Nat.reduceLT,Nat.reduceEqDiff];try rfl)|refine zc3 ?_|(refine And.intro ?_ ?_;focus (intros;simp_all only [Bool.or_eq_false_iff,Bool.or_eq_true,Bool.and_eq_true,and_self,true_and,and_true];done))
    refine ⟨by simp only [maxLen];omega,by omega,?_⟩
    repeat' first|refine zie rfl ?_|refine zc4 rfl ?_|refine zc7 ?_|refine zc8 ?_|refine zc5 ?_|refine zc6 ?_|(simp (maxSteps:=2000000) only [go_sem,Nat.reduceAdd,Nat.reduceMul,Nat.reduceBEq,Nat.reduceLeDiff,Nat.reduceLT,Nat.reduceEqDiff];try rfl)|refine zc3 ?_|(refine And.intro ?_ ?_;focus (intros;simp_all only [Bool.or_eq_false_iff,Bool.or_eq_true,Bool.and_eq_true,and_self,true_and,and_true];done))
    refine ⟨k+1,[0,1,5],⟨hlt,by rw [zxJ hlt];exact zxK hk.2 (fun _=>hy)⟩,by omega,?_⟩
    simp (maxSteps:=2000000) only [go_sem,Nat.reduceAdd,Nat.reduceMul,Nat.reduceBEq,Nat.reduceLeDiff,Nat.reduceLT,Nat.reduceEqDiff]
    rw [zxJ hlt,zxF hx,List.flatMap_append,List.length_append]
    repeat' first|exact zjB (zjA hlt (by omega))|exact rfl|exact trivial|assumption|decide|refine And.intro ?_ ?_
  · have hge:=zjI hd
    have hke:k=a.l.length:=by omega
    have hkp:=hk.2
    rw [hke,List.take_length] at hkp
    have e0:(a.l.take k).map (·.l)=a.l.map (·.l):=by rw [hke,List.take_length]
    rw [e0]
    refine zc6 ?_
    simp (maxSteps:=2000000) only [go_sem,Nat.reduceAdd,Nat.reduceMul,Nat.reduceBEq,Nat.reduceLeDiff,Nat.reduceLT,Nat.reduceEqDiff]
    refine zlX 2 (pilL (Con.con c) f.l (a.l.map (·.l))) rfl rfl rfl rfl (by decide) (zxM hc ha.2.2.2.1) h (Hp.le_refl _) (Mines.flat (fun _=>rfl) (fun _=>trivial)) fun s h' e1 e2 e3 e4=>?_
    have hw1:Enc.ok h' w:=Enc.mono e3 hw
    repeat' first|refine zie rfl ?_|refine zc4 rfl ?_|refine zc7 ?_|refine zc8 ?_|refine zc5 ?_|refine zc6 ?_|(simp (maxSteps:=2000000) only [go_sem,Nat.reduceAdd,Nat.reduceMul,Nat.reduceBEq,Nat.reduceLeDiff,Nat.reduceLT,Nat.reduceEqDiff];try rfl)|refine zc3 ?_|(refine And.intro ?_ ?_;focus (intros;simp_all only [Bool.or_eq_false_iff,Bool.or_eq_true,Bool.and_eq_true,and_self,true_and,and_true];done))
    refine zkr (zvW w.rest w.moves s _ hw1.2.2.2 e2) rfl ?_
    rintro v h2 le2 ⟨s2,rfl,e5,ok2,m2⟩
    rw [e1]
    by_cases h12:(pilL (Con.con c) f.l (a.l.map (·.l))).length≤12
    · have hfine:(zvK w.rest w.moves.l (pilL (Con.con c) f.l (a.l.map (·.l)))).2.2=true:=zvT (by rw [zvJ,zxE hkp h12,← zv7,(zv6 hC).2,show In w.rest 0 2880=true from (zv6 hC).1];rfl)
      rw [hfine]
      repeat' first|refine zie rfl ?_|refine zc4 rfl ?_|refine zc7 ?_|refine zc8 ?_|refine zc5 ?_|refine zc6 ?_|(simp (maxSteps:=2000000) only [go_sem,Nat.reduceAdd,Nat.reduceMul,Nat.reduceBEq,Nat.reduceLeDiff,Nat.reduceLT,Nat.reduceEqDiff];try rfl)|refine zc3 ?_|(refine And.intro ?_ ?_;focus (intros;simp_all only [Bool.or_eq_false_iff,Bool.or_eq_true,Bool.and_eq_true,and_self,true_and,and_true];done))
      refine zc9 rfl (fun hq=>?_) (fun hq=>?_)
      · cases hq
      repeat' first|refine zie rfl ?_|refine zc4 rfl ?_|refine zc7 ?_|refine zc8 ?_|refine zc5 ?_|refine zc6 ?_|(simp (maxSteps:=2000000) only [go_sem,Nat.reduceAdd,Nat.reduceMul,Nat.reduceBEq,Nat.reduceLeDiff,Nat.reduceLT,Nat.reduceEqDiff];try rfl)|refine zc3 ?_|(refine And.intro ?_ ?_;focus (intros;simp_all only [Bool.or_eq_false_iff,Bool.or_eq_true,Bool.and_eq_true,and_self,true_and,and_true];done))
      rw [zxB,if_pos ⟨hC,hkp,h12⟩,zv7];rfl
    · have hno:zvK w.rest w.moves.l (pilL (Con.con c) f.l (a.l.map (·.l)))=([],0,false):=zvR (by rw [zvJ,zul,decide_eq_false h12];rfl)
      rw [hno]
      repeat' first|refine zie rfl ?_|refine zc4 rfl ?_|refine zc7 ?_|refine zc8 ?_|refine zc5 ?_|refine zc6 ?_|(simp (maxSteps:=2000000) only [go_sem,Nat.reduceAdd,Nat.reduceMul,Nat.reduceBEq,Nat.reduceLeDiff,Nat.reduceLT,Nat.reduceEqDiff];try rfl)|refine zc3 ?_|(refine And.intro ?_ ?_;focus (intros;simp_all only [Bool.or_eq_false_iff,Bool.or_eq_true,Bool.and_eq_true,and_self,true_and,and_true];done))
      refine zc9 rfl (fun hq=>?_) (fun hq=>?_)
      case refine_2=>cases hq
      repeat' first|refine zie rfl ?_|refine zc4 rfl ?_|refine zc7 ?_|refine zc8 ?_|refine zc5 ?_|refine zc6 ?_|(simp (maxSteps:=2000000) only [go_sem,Nat.reduceAdd,Nat.reduceMul,Nat.reduceBEq,Nat.reduceLeDiff,Nat.reduceLT,Nat.reduceEqDiff];try rfl)|refine zc3 ?_|(refine And.intro ?_ ?_;focus (intros;simp_all only [Bool.or_eq_false_iff,Bool.or_eq_true,Bool.and_eq_true,and_self,true_and,and_true];done))
      rw [zxB,if_neg (fun H=>h12 H.2.2)]
theorem zxO (w:DCrew) (c:DChart) (f:Sl DShip) (a:Sl (Sl DPassage)) (h:Hp) (hw:Enc.ok h w) (hc:Enc.ok h c) (hf:f.Ok h) (ha:a.Ok h) (hz:a.l.length≤1048576):Ct Try.prog 34 [w.v,c.v,f.val,a.val] h fun v h'=>v=.int .i64 (zxB (Con.con w) (Con.con c) f.l (a.l.map (·.l)))∧h'=h:=by
  have hl:=ha.max
  refine Ct.forget ?_
  refine zdn (fun A W=>by simp) Try.func34 rfl rfl (by simp) fun W0=>?_
  repeat' first|refine zie rfl ?_|refine zc4 rfl ?_|refine zc7 ?_|refine zc8 ?_|refine zc5 ?_|refine zc6 ?_|(simp (maxSteps:=2000000) only [go_sem,Nat.reduceAdd,Nat.reduceMul,Nat.reduceBEq,Nat.reduceLeDiff,Nat.reduceLT,Nat.reduceEqDiff];try rfl)|refine zc3 ?_|(refine And.intro ?_ ?_;focus (intros;simp_all only [Bool.or_eq_false_iff,Bool.or_eq_true,Bool.and_eq_true,and_self,true_and,and_true];done))
  refine zma (ι:=Nat) (fun k=>⟨[(2,true,.c (.v f.val)),(4,true,.c (.p 0 0)),(5,true,.c (.p 1 0)),(8,true,.c (.v (.int .i64 0))),(9,true,.c (.s 2)),(18,true,.c (.v a.val)),(19,true,.c (.v (.int .i64 a.l.length))),(20,true,.c (.v (.int .i64 k)))],[(0,.box 48 [.v (.int .i64 w.tugs),.v (.int .i64 w.pilots),.v (.int .i64 w.rest),.v w.moves.val]),(1,.box 53 [.v c.points.val,.v c.segments.val]),(2,.row 79 4 (pilL (Con.con c) f.l ((a.l.take k).map (·.l))).length ((pilL (Con.con c) f.l ((a.l.take k).map (·.l))).flatMap Enc.enc))],h,3⟩) (fun k=>k≤a.l.length∧zxA (Con.con c) f.l ((a.l.take k).map (·.l))) (fun k=>a.l.length - k) 0 ⟨Nat.zero_le _,fun x hx=>by cases hx⟩ [0,1,2] ?_ ?_
  · simp (maxSteps:=2000000) only [go_sem,Nat.reduceAdd,Nat.reduceMul,Nat.reduceBEq,Nat.reduceLeDiff,Nat.reduceLT,Nat.reduceEqDiff]
    repeat' first|exact rfl|exact trivial|assumption|decide|refine And.intro ?_ ?_
  intro k hk
  have hpl:=zxH (c:=Con.con c) (f:=f.l) (l:=(a.l.take k).map (·.l))
  rw [List.length_map,List.length_take] at hpl
  repeat' first|refine zie rfl ?_|refine zc4 rfl ?_|refine zc7 ?_|refine zc8 ?_|refine zc5 ?_|refine zc6 ?_|(simp (maxSteps:=2000000) only [go_sem,Nat.reduceAdd,Nat.reduceMul,Nat.reduceBEq,Nat.reduceLeDiff,Nat.reduceLT,Nat.reduceEqDiff];try rfl)|refine zc3 ?_|(refine And.intro ?_ ?_;focus (intros;simp_all only [Bool.or_eq_false_iff,Bool.or_eq_true,Bool.and_eq_true,and_self,true_and,and_true];done))
  refine zc9 rfl (fun hd=>?_) (fun hd=>?_)
  · have hlt:=zjH hd
    have hok:=ha.el hlt
    repeat' first|refine zie rfl ?_|refine zc4 rfl ?_|refine zc7 ?_|refine zc8 ?_|refine zc5 ?_|refine zc6 ?_|(simp (maxSteps:=2000000) only [go_sem,Nat.reduceAdd,Nat.reduceMul,Nat.reduceBEq,Nat.reduceLeDiff,Nat.reduceLT,Nat.reduceEqDiff,zkQ ha hlt,ha.some hlt,hlt,Int.toNat_natCast];try rfl)|refine zc3 ?_|(refine And.intro ?_ ?_;focus (intros;simp_all only [Bool.or_eq_false_iff,Bool.or_eq_true,Bool.and_eq_true,and_self,true_and,and_true];done))
    refine zc9 rfl (fun hx=>?_) (fun hx=>?_)
    · have hx:a.l[k].l.length=0:=by have:=eq_of_beq hx;omega
      repeat' first|refine zie rfl ?_|refine zc4 rfl ?_|refine zc7 ?_|refine zc8 ?_|refine zc5 ?_|refine zc6 ?_|(simp (maxSteps:=2000000) only [go_sem,Nat.reduceAdd,Nat.reduceMul,Nat.reduceBEq,Nat.reduceLeDiff,Nat.reduceLT,Nat.reduceEqDiff];try rfl)|refine zc3 ?_|(refine And.intro ?_ ?_;focus (intros;simp_all only [Bool.or_eq_false_iff,Bool.or_eq_true,Bool.and_eq_true,and_self,true_and,and_true];done))
      refine ⟨k+1,[0,1,2],⟨hlt,by rw [zxJ hlt];exact zxK hk.2 (fun h0=>by omega)⟩,by omega,?_⟩
      simp (maxSteps:=2000000) only [go_sem,Nat.reduceAdd,Nat.reduceMul,Nat.reduceBEq,Nat.reduceLeDiff,Nat.reduceLT,Nat.reduceEqDiff]
      rw [zxJ hlt,zxG hx]
      repeat' first|exact zjB (zjA hlt (by omega))|exact rfl|exact trivial|assumption|decide|refine And.intro ?_ ?_
    have hx:0 < a.l[k].l.length:=by have:=ne_of_beq_false hx;omega
    have hmem:a.l[k].l ∈ a.l.map (·.l):=List.mem_map_of_mem (List.getElem_mem hlt)
    repeat' first|refine zie rfl ?_|refine zc4 rfl ?_|refine zc7 ?_|refine zc8 ?_|refine zc5 ?_|refine zc6 ?_|refine zhF (fun _=>zxy c f a.l[k] _ hc hf hok) ?_|(simp (maxSteps:=2000000) only [go_sem,Nat.reduceAdd,Nat.reduceMul,Nat.reduceBEq,Nat.reduceLeDiff,Nat.reduceLT,Nat.reduceEqDiff];try rfl)|refine zc3 ?_|(refine And.intro ?_ ?_;focus (intros;simp_all only [Bool.or_eq_false_iff,Bool.or_eq_true,Bool.and_eq_true,and_self,true_and,and_true];done))
    refine zc9 rfl (fun hy=>?_) (fun hy=>?_)
    · rw [Bool.not_eq_true'] at hy
      rw [zxL hmem hx hy]
      repeat' first|refine zie rfl ?_|refine zc4 rfl ?_|refine zc7 ?_|refine zc8 ?_|refine zc5 ?_|refine zc6 ?_|(simp (maxSteps:=2000000) only [go_sem,Nat.reduceAdd,Nat.reduceMul,Nat.reduceBEq,Nat.reduceLeDiff,Nat.reduceLT,Nat.reduceEqDiff];try rfl)|refine zc3 ?_|(refine And.intro ?_ ?_;focus (intros;simp_all only [Bool.or_eq_false_iff,Bool.or_eq_true,Bool.and_eq_true,and_self,true_and,and_true];done))
    rw [Bool.not_eq_false'] at hy
    repeat' first|refine zie rfl ?_|refine zc4 rfl ?_|refine zc7 ?_|refine zc8 ?_|refine zc5 ?_|refine zc6 ?_|(simp (maxSteps:=2000000) only [go_sem,Nat.reduceAdd,Nat.reduceMul,Nat.reduceBEq,Nat.reduceLeDiff,Nat.reduceLT,Nat.reduceEqDiff];try rfl)|refine zc3 ?_|(refine And.intro ?_ ?_;focus (intros;simp_all only [Bool.or_eq_false_iff,Bool.or_eq_true,Bool.and_eq_true,and_self,true_and,and_true];done))
    refine ⟨by simp only [maxLen];omega,by omega,?_⟩
    repeat' first|refine zie rfl ?_|refine zc4 rfl ?_|refine zc7 ?_|refine zc8 ?_|refine zc5 ?_|refine zc6 ?_|(simp (maxSteps:=2000000) only [go_sem,Nat.reduceAdd,Nat.reduceMul,Nat.reduceBEq,Nat.reduceLeDiff,Nat.reduceLT,Nat.reduceEqDiff];try rfl)|refine zc3 ?_|(refine And.intro ?_ ?_;focus (intros;simp_all only [Bool.or_eq_false_iff,Bool.or_eq_true,Bool.and_eq_true,and_self,true_and,and_true];done))
    refine ⟨k+1,[0,1,5],⟨hlt,by rw [zxJ hlt];exact zxK hk.2 (fun _=>hy)⟩,by omega,?_⟩
    simp (maxSteps:=2000000) only [go_sem,Nat.reduceAdd,Nat.reduceMul,Nat.reduceBEq,Nat.reduceLeDiff,Nat.reduceLT,Nat.reduceEqDiff]
    rw [zxJ hlt,zxF hx,List.flatMap_append,List.length_append]
    repeat' first|exact zjB (zjA hlt (by omega))|exact rfl|exact trivial|assumption|decide|refine And.intro ?_ ?_
  · have hge:=zjI hd
    have hke:k=a.l.length:=by omega
    have hkp:=hk.2
    rw [hke,List.take_length] at hkp
    have e0:(a.l.take k).map (·.l)=a.l.map (·.l):=by rw [hke,List.take_length]
    rw [e0]
    refine zc6 ?_
    simp (maxSteps:=2000000) only [go_sem,Nat.reduceAdd,Nat.reduceMul,Nat.reduceBEq,Nat.reduceLeDiff,Nat.reduceLT,Nat.reduceEqDiff]
    repeat' first|refine zie rfl ?_|refine zc4 rfl ?_|refine zc7 ?_|refine zc8 ?_|refine zc5 ?_|refine zc6 ?_|refine zhF (fun _=>zr3 w _ hw) ?_|(simp (maxSteps:=2000000) only [go_sem,Nat.reduceAdd,Nat.reduceMul,Nat.reduceBEq,Nat.reduceLeDiff,Nat.reduceLT,Nat.reduceEqDiff];try rfl)|refine zc3 ?_|(refine And.intro ?_ ?_;focus (intros;simp_all only [Bool.or_eq_false_iff,Bool.or_eq_true,Bool.and_eq_true,and_self,true_and,and_true];done))
    refine zc9 rfl (fun hq=>?_) (fun hq=>?_)
    · repeat' first|refine zie rfl ?_|refine zc4 rfl ?_|refine zc7 ?_|refine zc8 ?_|refine zc5 ?_|refine zc6 ?_|(simp (maxSteps:=2000000) only [go_sem,Nat.reduceAdd,Nat.reduceMul,Nat.reduceBEq,Nat.reduceLeDiff,Nat.reduceLT,Nat.reduceEqDiff];try rfl)|refine zc3 ?_|(refine And.intro ?_ ?_;focus (intros;simp_all only [Bool.or_eq_false_iff,Bool.or_eq_true,Bool.and_eq_true,and_self,true_and,and_true];done))
      rw [zxB,if_neg]
      rintro ⟨h1,-,h2⟩
      rw [h1] at hq
      simp only [Bool.not_true,Bool.false_or] at hq
      have hq:=of_decide_eq_true hq
      omega
    rw [Bool.or_eq_false_iff,Bool.not_eq_false'] at hq
    obtain ⟨hC,h12⟩:=hq
    have h12:=of_decide_eq_false h12
    refine zlX 2 (pilL (Con.con c) f.l (a.l.map (·.l))) rfl rfl rfl rfl (by decide) (zxM hc ha.2.2.2.1) h (Hp.le_refl _) (Mines.flat (fun _=>rfl) (fun _=>trivial)) fun s h' e1 e2 e3 e4=>?_
    have hw1:Enc.ok h' w:=Enc.mono e3 hw
    repeat' first|refine zie rfl ?_|refine zc4 rfl ?_|refine zc7 ?_|refine zc8 ?_|refine zc5 ?_|refine zc6 ?_|(simp (maxSteps:=2000000) only [go_sem,Nat.reduceAdd,Nat.reduceMul,Nat.reduceBEq,Nat.reduceLeDiff,Nat.reduceLT,Nat.reduceEqDiff];try rfl)|refine zc3 ?_|(refine And.intro ?_ ?_;focus (intros;simp_all only [Bool.or_eq_false_iff,Bool.or_eq_true,Bool.and_eq_true,and_self,true_and,and_true];done))
    refine zkr (zvX w.rest w.moves s _ hw1.2.2.2 e2) rfl ?_
    rintro v h2 le2 ⟨s2,rfl,e5,ok2,m2⟩
    rw [e1]
    repeat' first|refine zie rfl ?_|refine zc4 rfl ?_|refine zc7 ?_|refine zc8 ?_|refine zc5 ?_|refine zc6 ?_|(simp (maxSteps:=2000000) only [go_sem,Nat.reduceAdd,Nat.reduceMul,Nat.reduceBEq,Nat.reduceLeDiff,Nat.reduceLT,Nat.reduceEqDiff];try rfl)|refine zc3 ?_|(refine And.intro ?_ ?_;focus (intros;simp_all only [Bool.or_eq_false_iff,Bool.or_eq_true,Bool.and_eq_true,and_self,true_and,and_true];done))
    rw [zxB,if_pos ⟨hC,hkp,by omega⟩,zv7];rfl
theorem zxW (w:DCrew) (c:DChart) (f:Sl DShip) (a:Sl (Sl DPassage)) (h:Hp) (hw:Enc.ok h w) (hc:Enc.ok h c) (hf:f.Ok h) (ha:a.Ok h) (hz:(a.l.flatMap (·.l)).length≤1048576) (hz2:a.l.length≤1048576):Ct Try.prog 36 [w.v,c.v,f.val,a.val] h fun v h'=>v=.bool (zxT (Con.con w) (Con.con c) f.l (a.l.map (·.l)))∧h'=h:=by
  have hl:=ha.max
  refine Ct.forget ?_
  refine zdn (fun A W=>by simp) Try.func36 rfl rfl (by simp) fun W0=>?_
  repeat' first|refine zie rfl ?_|refine zc4 rfl ?_|refine zc7 ?_|refine zc8 ?_|refine zc5 ?_|refine zc6 ?_|(simp (maxSteps:=2000000) only [go_sem,Nat.reduceAdd,Nat.reduceMul,Nat.reduceBEq,Nat.reduceLeDiff,Nat.reduceLT,Nat.reduceEqDiff];try rfl)|refine zc3 ?_|(refine And.intro ?_ ?_;focus (intros;simp_all only [Bool.or_eq_false_iff,Bool.or_eq_true,Bool.and_eq_true,and_self,true_and,and_true];done))
  refine zma (ι:=Nat) (fun k=>⟨[(2,true,.c (.v f.val)),(3,true,.c (.v a.val)),(4,true,.c (.p 0 0)),(5,true,.c (.p 1 0)),(8,true,.c (.v (.bool false))),(9,true,.c (.s 2)),(13,true,.c (.v a.val)),(14,true,.c (.v (.int .i64 a.l.length))),(15,true,.c (.v (.int .i64 k)))],[(0,.box 48 [.v (.int .i64 w.tugs),.v (.int .i64 w.pilots),.v (.int .i64 w.rest),.v w.moves.val]),(1,.box 53 [.v c.points.val,.v c.segments.val]),(2,.row 104 5 ((a.l.take k).flatMap (·.l)).length (((a.l.take k).flatMap (·.l)).flatMap Enc.enc))],h,3⟩) (fun k=>k≤a.l.length) (fun k=>a.l.length - k) 0 (Nat.zero_le _) [0,1,2] ?_ ?_
  · simp (maxSteps:=2000000) only [go_sem,Nat.reduceAdd,Nat.reduceMul,Nat.reduceBEq,Nat.reduceLeDiff,Nat.reduceLT,Nat.reduceEqDiff]
    repeat' first|exact rfl|exact trivial|assumption|decide|refine And.intro ?_ ?_
  intro k hk
  repeat' first|refine zie rfl ?_|refine zc4 rfl ?_|refine zc7 ?_|refine zc8 ?_|refine zc5 ?_|refine zc6 ?_|(simp (maxSteps:=2000000) only [go_sem,Nat.reduceAdd,Nat.reduceMul,Nat.reduceBEq,Nat.reduceLeDiff,Nat.reduceLT,Nat.reduceEqDiff];try rfl)|refine zc3 ?_|(refine And.intro ?_ ?_;focus (intros;simp_all only [Bool.or_eq_false_iff,Bool.or_eq_true,Bool.and_eq_true,and_self,true_and,and_true];done))
  refine zc9 rfl (fun hd=>?_) (fun hd=>?_)
  · have hlt:=zjH hd
    have hok:=ha.el hlt
    have hall:h.ldL a.l[k].val 5=some (a.l[k].l.flatMap Enc.enc):=Sl.Ok.all hok (by decide)
    have hfl:(a.l.take (k+1)).flatMap (·.l)=(a.l.take k).flatMap (·.l) ++ a.l[k].l:=by rw [List.take_succ_eq_append_getElem hlt,List.flatMap_append];simp
    have hle:((a.l.take (k+1)).flatMap (·.l)).length≤(a.l.flatMap (·.l)).length:=by
      rw [← List.take_append_drop (k+1) a.l,List.flatMap_append,List.take_append_drop,List.length_append];omega
    rw [hfl,List.length_append] at hle
    repeat' first|refine zie rfl ?_|refine zc4 rfl ?_|refine zc7 ?_|refine zc8 ?_|refine zc5 ?_|refine zc6 ?_|(simp (maxSteps:=2000000) only [go_sem,Nat.reduceAdd,Nat.reduceMul,Nat.reduceBEq,Nat.reduceLeDiff,Nat.reduceLT,Nat.reduceEqDiff,zkQ ha hlt,ha.some hlt,hlt,Int.toNat_natCast];try rfl)|refine zc3 ?_|(refine And.intro ?_ ?_;focus (intros;simp_all only [Bool.or_eq_false_iff,Bool.or_eq_true,Bool.and_eq_true,and_self,true_and,and_true];done))
    simp only [hall,Option.isSome_some,Option.getD_some,← hfl,← List.flatMap_append,← List.length_append]
    refine ⟨trivial,fun u hu=>zxU hu,by simp only [maxLen];rw [hfl,List.length_append];omega,by rw [hfl,List.length_append];omega,?_⟩
    repeat' first|refine zie rfl ?_|refine zc4 rfl ?_|refine zc7 ?_|refine zc8 ?_|refine zc5 ?_|refine zc6 ?_|(simp (maxSteps:=2000000) only [go_sem,Nat.reduceAdd,Nat.reduceMul,Nat.reduceBEq,Nat.reduceLeDiff,Nat.reduceLT,Nat.reduceEqDiff];try rfl)|refine zc3 ?_|(refine And.intro ?_ ?_;focus (intros;simp_all only [Bool.or_eq_false_iff,Bool.or_eq_true,Bool.and_eq_true,and_self,true_and,and_true];done))
    refine ⟨k+1,[0,1,3],hlt,by omega,?_⟩
    simp (maxSteps:=2000000) only [go_sem,Nat.reduceAdd,Nat.reduceMul,Nat.reduceBEq,Nat.reduceLeDiff,Nat.reduceLT,Nat.reduceEqDiff]
    repeat' first|exact zjB (zjA hlt (by omega))|exact rfl|exact trivial|assumption|decide|refine And.intro ?_ ?_
  · have hge:=zjI hd
    have hke:k=a.l.length:=by omega
    have e0:(a.l.take k).flatMap (·.l)=a.l.flatMap (·.l):=by rw [hke,List.take_length]
    have ef:(a.l.map (·.l)).flatten=a.l.flatMap (·.l):=by rw [List.flatMap_def]
    rw [e0]
    refine zc6 ?_
    simp (maxSteps:=2000000) only [go_sem,Nat.reduceAdd,Nat.reduceMul,Nat.reduceBEq,Nat.reduceLeDiff,Nat.reduceLT,Nat.reduceEqDiff]
    refine zlX 2 (a.l.flatMap (·.l)) rfl rfl rfl rfl (by decide) (fun x hx=>?_) h (Hp.le_refl _) (Mines.flat (fun _=>rfl) (fun _=>trivial)) fun s h' e1 e2 e3 e4=>?_
    · obtain ⟨y,hy,hx⟩:=List.mem_flatMap.1 hx
      exact (ha.2.2.2.1 y hy).2.2.2.1 x hx
    have hw1:Enc.ok h' w:=Enc.mono e3 hw
    have hc1:Enc.ok h' c:=Enc.mono e3 hc
    have hf1:=hf.mono e3
    have ha1:=ha.mono e3
    repeat' first|refine zie rfl ?_|refine zc4 rfl ?_|refine zc7 ?_|refine zc8 ?_|refine zc5 ?_|refine zc6 ?_|(simp (maxSteps:=2000000) only [go_sem,Nat.reduceAdd,Nat.reduceMul,Nat.reduceBEq,Nat.reduceLeDiff,Nat.reduceLT,Nat.reduceEqDiff];try rfl)|refine zc3 ?_|(refine And.intro ?_ ?_;focus (intros;simp_all only [Bool.or_eq_false_iff,Bool.or_eq_true,Bool.and_eq_true,and_self,true_and,and_true];done))
    refine zte rfl ?_
    refine zs7 [0,1,2,3,5,6] rfl (by kernel_rfl) ?_
    simp (maxSteps:=2000000) only [go_sem,Nat.reduceAdd,Nat.reduceMul,Nat.reduceBEq,Nat.reduceLeDiff,Nat.reduceLT,Nat.reduceEqDiff]
    refine ztc 4 0 [6,5] rfl (by kernel_rfl) (by kernel_rfl) (by kernel_rfl) rfl ?_
    simp (maxSteps:=2000000) only [go_sem,Nat.reduceAdd,Nat.reduceMul,Nat.reduceBEq,Nat.reduceLeDiff,Nat.reduceLT,Nat.reduceEqDiff]
    refine zhF (fun _=>zv8 w c f s _ hw1 hc1 hf1 e2) ?_
    simp (maxSteps:=2000000) only [go_sem,Nat.reduceAdd,Nat.reduceMul,Nat.reduceBEq,Nat.reduceLeDiff,Nat.reduceLT,Nat.reduceEqDiff]
    refine ztc 7 0 [] rfl (by kernel_rfl) (by kernel_rfl) (by kernel_rfl) rfl ?_
    simp (maxSteps:=2000000) only [go_sem,Nat.reduceAdd,Nat.reduceMul,Nat.reduceBEq,Nat.reduceLeDiff,Nat.reduceLT,Nat.reduceEqDiff]
    refine zhF (fun _=>zrc _ _ _ _) ?_
    simp (maxSteps:=2000000) only [go_sem,Nat.reduceAdd,Nat.reduceMul,Nat.reduceBEq,Nat.reduceLeDiff,Nat.reduceLT,Nat.reduceEqDiff]
    refine zs7 [8,9,10,11,12,14,15] rfl (by kernel_rfl) ?_
    simp (maxSteps:=2000000) only [go_sem,Nat.reduceAdd,Nat.reduceMul,Nat.reduceBEq,Nat.reduceLeDiff,Nat.reduceLT,Nat.reduceEqDiff]
    refine ztc 13 0 [15,14] rfl (by kernel_rfl) (by kernel_rfl) (by kernel_rfl) rfl ?_
    simp (maxSteps:=2000000) only [go_sem,Nat.reduceAdd,Nat.reduceMul,Nat.reduceBEq,Nat.reduceLeDiff,Nat.reduceLT,Nat.reduceEqDiff]
    refine zhF (fun _=>zxN w c f a _ hw1 hc1 hf1 ha1 hz2) ?_
    simp (maxSteps:=2000000) only [go_sem,Nat.reduceAdd,Nat.reduceMul,Nat.reduceBEq,Nat.reduceLeDiff,Nat.reduceLT,Nat.reduceEqDiff]
    refine ztc 16 0 [] rfl (by kernel_rfl) (by kernel_rfl) (by kernel_rfl) rfl ?_
    simp (maxSteps:=2000000) only [go_sem,Nat.reduceAdd,Nat.reduceMul,Nat.reduceBEq,Nat.reduceLeDiff,Nat.reduceLT,Nat.reduceEqDiff]
    refine zhF (fun _=>zrc _ _ _ _) ?_
    simp (maxSteps:=2000000) only [go_sem,Nat.reduceAdd,Nat.reduceMul,Nat.reduceBEq,Nat.reduceLeDiff,Nat.reduceLT,Nat.reduceEqDiff]
    refine zs7 [17,18] rfl (by kernel_rfl) ?_
    simp (maxSteps:=2000000) only [go_sem,Nat.reduceAdd,Nat.reduceMul,Nat.reduceBEq,Nat.reduceLeDiff,Nat.reduceLT,Nat.reduceEqDiff]
    refine ztd (by kernel_rfl) ?_
    repeat' first|refine zie rfl ?_|refine zc4 rfl ?_|refine zc7 ?_|refine zc8 ?_|refine zc5 ?_|refine zc6 ?_|(simp (maxSteps:=2000000) only [go_sem,Nat.reduceAdd,Nat.reduceMul,Nat.reduceBEq,Nat.reduceLeDiff,Nat.reduceLT,Nat.reduceEqDiff];try rfl)|refine zc3 ?_|(refine And.intro ?_ ?_;focus (intros;simp_all only [Bool.or_eq_false_iff,Bool.or_eq_true,Bool.and_eq_true,and_self,true_and,and_true];done))
    rw [zxT,e1,ef]
    rfl
theorem zxX (w:DCrew) (c:DChart) (f:Sl DShip) (a:Sl (Sl DPassage)) (h:Hp) (hw:Enc.ok h w) (hc:Enc.ok h c) (hf:f.Ok h) (ha:a.Ok h) (hz:Sz.sz (Con.con a)≤1048576):Ct Try.prog 36 [w.v,c.v,f.val,a.val] h fun v h'=>v=.bool (zxT (Con.con w) (Con.con c) (Con.con f) (Con.con a))∧h'=h:=by
  have hz2:=zxV hz
  rw [zrv,zxI];exact zxW w c f a h hw hc hf ha hz2.1 hz2.2
theorem zxY (w:DCrew) (c:DChart) (f:Sl DShip) (a:Sl (Sl DPassage)) (h:Hp) (hw:Enc.ok h w) (hc:Enc.ok h c) (hf:f.Ok h) (ha:a.Ok h) (hz:(a.l.flatMap (·.l)).length≤1048576) (hz2:a.l.length≤1048576):Ct Try.prog 37 [w.v,c.v,f.val,a.val] h fun v h'=>v=.bool (zxT (Con.con w) (Con.con c) f.l (a.l.map (·.l)))∧h'=h:=by
  have hl:=ha.max
  refine Ct.forget ?_
  refine zdn (fun A W=>by simp) Try.func37 rfl rfl (by simp) fun W0=>?_
  repeat' first|refine zie rfl ?_|refine zc4 rfl ?_|refine zc7 ?_|refine zc8 ?_|refine zc5 ?_|refine zc6 ?_|(simp (maxSteps:=2000000) only [go_sem,Nat.reduceAdd,Nat.reduceMul,Nat.reduceBEq,Nat.reduceLeDiff,Nat.reduceLT,Nat.reduceEqDiff];try rfl)|refine zc3 ?_|(refine And.intro ?_ ?_;focus (intros;simp_all only [Bool.or_eq_false_iff,Bool.or_eq_true,Bool.and_eq_true,and_self,true_and,and_true];done))
  refine zma (ι:=Nat) (fun k=>⟨[(2,true,.c (.v f.val)),(3,true,.c (.v a.val)),(4,true,.c (.p 0 0)),(5,true,.c (.p 1 0)),(8,true,.c (.v (.bool false))),(9,true,.c (.s 2)),(13,true,.c (.v a.val)),(14,true,.c (.v (.int .i64 a.l.length))),(15,true,.c (.v (.int .i64 k)))],[(0,.box 48 [.v (.int .i64 w.tugs),.v (.int .i64 w.pilots),.v (.int .i64 w.rest),.v w.moves.val]),(1,.box 53 [.v c.points.val,.v c.segments.val]),(2,.row 104 5 ((a.l.take k).flatMap (·.l)).length (((a.l.take k).flatMap (·.l)).flatMap Enc.enc))],h,3⟩) (fun k=>k≤a.l.length) (fun k=>a.l.length - k) 0 (Nat.zero_le _) [0,1,2] ?_ ?_
  · simp (maxSteps:=2000000) only [go_sem,Nat.reduceAdd,Nat.reduceMul,Nat.reduceBEq,Nat.reduceLeDiff,Nat.reduceLT,Nat.reduceEqDiff]
    repeat' first|exact rfl|exact trivial|assumption|decide|refine And.intro ?_ ?_
  intro k hk
  repeat' first|refine zie rfl ?_|refine zc4 rfl ?_|refine zc7 ?_|refine zc8 ?_|refine zc5 ?_|refine zc6 ?_|(simp (maxSteps:=2000000) only [go_sem,Nat.reduceAdd,Nat.reduceMul,Nat.reduceBEq,Nat.reduceLeDiff,Nat.reduceLT,Nat.reduceEqDiff];try rfl)|refine zc3 ?_|(refine And.intro ?_ ?_;focus (intros;simp_all only [Bool.or_eq_false_iff,Bool.or_eq_true,Bool.and_eq_true,and_self,true_and,and_true];done))
  refine zc9 rfl (fun hd=>?_) (fun hd=>?_)
  · have hlt:=zjH hd
    have hok:=ha.el hlt
    have hall:h.ldL a.l[k].val 5=some (a.l[k].l.flatMap Enc.enc):=Sl.Ok.all hok (by decide)
    have hfl:(a.l.take (k+1)).flatMap (·.l)=(a.l.take k).flatMap (·.l) ++ a.l[k].l:=by rw [List.take_succ_eq_append_getElem hlt,List.flatMap_append];simp
    have hle:((a.l.take (k+1)).flatMap (·.l)).length≤(a.l.flatMap (·.l)).length:=by
      rw [← List.take_append_drop (k+1) a.l,List.flatMap_append,List.take_append_drop,List.length_append];omega
    rw [hfl,List.length_append] at hle
    repeat' first|refine zie rfl ?_|refine zc4 rfl ?_|refine zc7 ?_|refine zc8 ?_|refine zc5 ?_|refine zc6 ?_|(simp (maxSteps:=2000000) only [go_sem,Nat.reduceAdd,Nat.reduceMul,Nat.reduceBEq,Nat.reduceLeDiff,Nat.reduceLT,Nat.reduceEqDiff,zkQ ha hlt,ha.some hlt,hlt,Int.toNat_natCast];try rfl)|refine zc3 ?_|(refine And.intro ?_ ?_;focus (intros;simp_all only [Bool.or_eq_false_iff,Bool.or_eq_true,Bool.and_eq_true,and_self,true_and,and_true];done))
    simp only [hall,Option.isSome_some,Option.getD_some,← hfl,← List.flatMap_append,← List.length_append]
    refine ⟨trivial,fun u hu=>zxU hu,by simp only [maxLen];rw [hfl,List.length_append];omega,by rw [hfl,List.length_append];omega,?_⟩
    repeat' first|refine zie rfl ?_|refine zc4 rfl ?_|refine zc7 ?_|refine zc8 ?_|refine zc5 ?_|refine zc6 ?_|(simp (maxSteps:=2000000) only [go_sem,Nat.reduceAdd,Nat.reduceMul,Nat.reduceBEq,Nat.reduceLeDiff,Nat.reduceLT,Nat.reduceEqDiff];try rfl)|refine zc3 ?_|(refine And.intro ?_ ?_;focus (intros;simp_all only [Bool.or_eq_false_iff,Bool.or_eq_true,Bool.and_eq_true,and_self,true_and,and_true];done))
    refine ⟨k+1,[0,1,3],hlt,by omega,?_⟩
    simp (maxSteps:=2000000) only [go_sem,Nat.reduceAdd,Nat.reduceMul,Nat.reduceBEq,Nat.reduceLeDiff,Nat.reduceLT,Nat.reduceEqDiff]
    repeat' first|exact zjB (zjA hlt (by omega))|exact rfl|exact trivial|assumption|decide|refine And.intro ?_ ?_
  · have hge:=zjI hd
    have hke:k=a.l.length:=by omega
    have e0:(a.l.take k).flatMap (·.l)=a.l.flatMap (·.l):=by rw [hke,List.take_length]
    have ef:(a.l.map (·.l)).flatten=a.l.flatMap (·.l):=by rw [List.flatMap_def]
    rw [e0]
    refine zc6 ?_
    simp (maxSteps:=2000000) only [go_sem,Nat.reduceAdd,Nat.reduceMul,Nat.reduceBEq,Nat.reduceLeDiff,Nat.reduceLT,Nat.reduceEqDiff]
    refine zlX 2 (a.l.flatMap (·.l)) rfl rfl rfl rfl (by decide) (fun x hx=>?_) h (Hp.le_refl _) (Mines.flat (fun _=>rfl) (fun _=>trivial)) fun s h' e1 e2 e3 e4=>?_
    · obtain ⟨y,hy,hx⟩:=List.mem_flatMap.1 hx
      exact (ha.2.2.2.1 y hy).2.2.2.1 x hx
    have hw1:Enc.ok h' w:=Enc.mono e3 hw
    have hc1:Enc.ok h' c:=Enc.mono e3 hc
    have hf1:=hf.mono e3
    have ha1:=ha.mono e3
    repeat' first|refine zie rfl ?_|refine zc4 rfl ?_|refine zc7 ?_|refine zc8 ?_|refine zc5 ?_|refine zc6 ?_|(simp (maxSteps:=2000000) only [go_sem,Nat.reduceAdd,Nat.reduceMul,Nat.reduceBEq,Nat.reduceLeDiff,Nat.reduceLT,Nat.reduceEqDiff];try rfl)|refine zc3 ?_|(refine And.intro ?_ ?_;focus (intros;simp_all only [Bool.or_eq_false_iff,Bool.or_eq_true,Bool.and_eq_true,and_self,true_and,and_true];done))
    refine zte rfl ?_
    refine zs7 [0,1,2,3,5,6] rfl (by kernel_rfl) ?_
    simp (maxSteps:=2000000) only [go_sem,Nat.reduceAdd,Nat.reduceMul,Nat.reduceBEq,Nat.reduceLeDiff,Nat.reduceLT,Nat.reduceEqDiff]
    refine ztc 4 0 [6,5] rfl (by kernel_rfl) (by kernel_rfl) (by kernel_rfl) rfl ?_
    simp (maxSteps:=2000000) only [go_sem,Nat.reduceAdd,Nat.reduceMul,Nat.reduceBEq,Nat.reduceLeDiff,Nat.reduceLT,Nat.reduceEqDiff]
    refine zhF (fun _=>zv9 w c f s _ hw1 hc1 hf1 e2) ?_
    simp (maxSteps:=2000000) only [go_sem,Nat.reduceAdd,Nat.reduceMul,Nat.reduceBEq,Nat.reduceLeDiff,Nat.reduceLT,Nat.reduceEqDiff]
    refine ztc 7 0 [] rfl (by kernel_rfl) (by kernel_rfl) (by kernel_rfl) rfl ?_
    simp (maxSteps:=2000000) only [go_sem,Nat.reduceAdd,Nat.reduceMul,Nat.reduceBEq,Nat.reduceLeDiff,Nat.reduceLT,Nat.reduceEqDiff]
    refine zhF (fun _=>zrd _ _ _ _) ?_
    simp (maxSteps:=2000000) only [go_sem,Nat.reduceAdd,Nat.reduceMul,Nat.reduceBEq,Nat.reduceLeDiff,Nat.reduceLT,Nat.reduceEqDiff]
    refine zs7 [8,9,10,11,12,14,15] rfl (by kernel_rfl) ?_
    simp (maxSteps:=2000000) only [go_sem,Nat.reduceAdd,Nat.reduceMul,Nat.reduceBEq,Nat.reduceLeDiff,Nat.reduceLT,Nat.reduceEqDiff]
    refine ztc 13 0 [15,14] rfl (by kernel_rfl) (by kernel_rfl) (by kernel_rfl) rfl ?_
    simp (maxSteps:=2000000) only [go_sem,Nat.reduceAdd,Nat.reduceMul,Nat.reduceBEq,Nat.reduceLeDiff,Nat.reduceLT,Nat.reduceEqDiff]
    refine zhF (fun _=>zxO w c f a _ hw1 hc1 hf1 ha1 hz2) ?_
    simp (maxSteps:=2000000) only [go_sem,Nat.reduceAdd,Nat.reduceMul,Nat.reduceBEq,Nat.reduceLeDiff,Nat.reduceLT,Nat.reduceEqDiff]
    refine ztc 16 0 [] rfl (by kernel_rfl) (by kernel_rfl) (by kernel_rfl) rfl ?_
    simp (maxSteps:=2000000) only [go_sem,Nat.reduceAdd,Nat.reduceMul,Nat.reduceBEq,Nat.reduceLeDiff,Nat.reduceLT,Nat.reduceEqDiff]
    refine zhF (fun _=>zrd _ _ _ _) ?_
    simp (maxSteps:=2000000) only [go_sem,Nat.reduceAdd,Nat.reduceMul,Nat.reduceBEq,Nat.reduceLeDiff,Nat.reduceLT,Nat.reduceEqDiff]
    refine zs7 [17,18] rfl (by kernel_rfl) ?_
    simp (maxSteps:=2000000) only [go_sem,Nat.reduceAdd,Nat.reduceMul,Nat.reduceBEq,Nat.reduceLeDiff,Nat.reduceLT,Nat.reduceEqDiff]
    refine ztd (by kernel_rfl) ?_
    repeat' first|refine zie rfl ?_|refine zc4 rfl ?_|refine zc7 ?_|refine zc8 ?_|refine zc5 ?_|refine zc6 ?_|(simp (maxSteps:=2000000) only [go_sem,Nat.reduceAdd,Nat.reduceMul,Nat.reduceBEq,Nat.reduceLeDiff,Nat.reduceLT,Nat.reduceEqDiff];try rfl)|refine zc3 ?_|(refine And.intro ?_ ?_;focus (intros;simp_all only [Bool.or_eq_false_iff,Bool.or_eq_true,Bool.and_eq_true,and_self,true_and,and_true];done))
    rw [zxT,e1,ef]
    rfl
theorem zxZ (w:DCrew) (c:DChart) (f:Sl DShip) (a:Sl (Sl DPassage)) (h:Hp) (hw:Enc.ok h w) (hc:Enc.ok h c) (hf:f.Ok h) (ha:a.Ok h) (hz:Sz.sz (Con.con a)≤1048576):Ct Try.prog 37 [w.v,c.v,f.val,a.val] h fun v h'=>v=.bool (zxT (Con.con w) (Con.con c) (Con.con f) (Con.con a))∧h'=h:=by
  have hz2:=zxV hz
  rw [zrv,zxI];exact zxY w c f a h hw hc hf ha hz2.1 hz2.2
end Go.Proofs.Ytjiggadgmmjnhaa
namespace Go.Proofs.Ytjiggadgmmjnhaa
open Go Go.SL Go.RowKit Go.ChangeShapes Go.WideShapes Go.ChangeAt Go.Deep
set_option maxHeartbeats 1000000
theorem Try.own:ownKnob Try.prog.godebug=none:=by kernel_rfl
theorem Try.laidOut:laidOutB Try.prog=true:=by kernel_rfl
theorem zwc:Try.prog.cellsOf 3=1:=by kernel_rfl
theorem zwd:Try.prog.cellsOf 4=1:=by kernel_rfl
theorem zwe:Try.prog.cellsOf 9=1:=by kernel_rfl
theorem zwf:Opens Int Try.prog 3:=zkv Try.underlying3
set_option maxRecDepth 100000 in
theorem zwg:Opens DPassage Try.prog 106:=by
  intro H enc w base spare held fuel cs x h
  obtain ⟨hl,hf⟩:=zkx Try.underlying106 h
  have hl:cs.length=5:=hl.trans (by kernel_rfl)
  match cs,hl with
  | [c0,c1,c2,c3,c4],_ =>
    obtain ⟨a0,e0,o0⟩:=zlx Try.underlying3 hf 0 0 ⟨_,rfl,rfl,rfl⟩ zwc
    have e0:[c0]=[.int .i64 a0]:=e0
    obtain ⟨a1,e1,o1⟩:=zlx Try.underlying3 hf 1 1 ⟨_,rfl,rfl,rfl⟩ zwc
    have e1:[c1]=[.int .i64 a1]:=e1
    obtain ⟨a2,e2⟩:=zly Try.underlying4 hf 2 2 ⟨_,rfl,rfl,rfl⟩ zwd
    have e2:[c2]=[.bool a2]:=e2
    obtain ⟨a3,e3,o3⟩:=zlx Try.underlying3 hf 3 3 ⟨_,rfl,rfl,rfl⟩ zwc
    have e3:[c3]=[.int .i64 a3]:=e3
    obtain ⟨a4,e4,o4⟩:=zlx Try.underlying3 hf 4 4 ⟨_,rfl,rfl,rfl⟩ zwc
    have e4:[c4]=[.int .i64 a4]:=e4
    have ee:[c0] ++ [c1] ++ [c2] ++ [c3] ++ [c4]=[.int .i64 a0] ++ [.int .i64 a1] ++ [.bool a2] ++ [.int .i64 a3] ++ [.int .i64 a4]:=by rw [e0,e1,e2,e3,e4]
    exact ⟨⟨a0,a1,a2,a3,a4⟩,ee,o0,o1,o3,o4⟩
theorem zwh:Opens (Sl DPassage) Try.prog 42:=zkw Try.underlying42 (by kernel_rfl) zwg
theorem zwi:Try.prog.cellsOf 22=1:=by kernel_rfl
theorem opens_IntS:Opens (Sl Int) Try.prog 22:=zkw Try.underlying22 (by kernel_rfl) zwf
set_option maxRecDepth 100000 in
theorem zwj:Opens DCrew Try.prog 36:=by
  intro H enc w base spare held fuel cs x h
  obtain ⟨hl,hf⟩:=zkx Try.underlying36 h
  have hl:cs.length=4:=hl.trans (by kernel_rfl)
  match cs,hl with
  | [c0,c1,c2,c3],_ =>
    obtain ⟨a0,e0,o0⟩:=zlx Try.underlying3 hf 0 0 ⟨_,rfl,rfl,rfl⟩ zwc
    have e0:[c0]=[.int .i64 a0]:=e0
    obtain ⟨a1,e1,o1⟩:=zlx Try.underlying3 hf 1 1 ⟨_,rfl,rfl,rfl⟩ zwc
    have e1:[c1]=[.int .i64 a1]:=e1
    obtain ⟨a2,e2,o2⟩:=zlx Try.underlying3 hf 2 2 ⟨_,rfl,rfl,rfl⟩ zwc
    have e2:[c2]=[.int .i64 a2]:=e2
    obtain ⟨a3,e3,o3⟩:=opens_IntS.field hf 3 3 1 ⟨_,rfl,rfl,rfl⟩ zwi
    have e3:[c3]=Enc.enc a3:=e3
    have ee:[c0] ++ [c1] ++ [c2] ++ [c3]=[.int .i64 a0] ++ [.int .i64 a1] ++ [.int .i64 a2] ++ Enc.enc a3:=by rw [e0,e1,e2,e3]
    exact ⟨⟨a0,a1,a2,a3⟩,ee,o0,o1,o2,o3⟩
set_option maxRecDepth 100000 in
theorem zwk:Opens DPoint Try.prog 123:=by
  intro H enc w base spare held fuel cs x h
  obtain ⟨hl,hf⟩:=zkx Try.underlying123 h
  have hl:cs.length=2:=hl.trans (by kernel_rfl)
  match cs,hl with
  | [c0,c1],_ =>
    obtain ⟨a0,e0,o0⟩:=zlz Try.underlying9 hf 0 0 ⟨_,rfl,rfl,rfl⟩ zwe
    have e0:[c0]=[.string a0]:=e0
    obtain ⟨a1,e1⟩:=zly Try.underlying4 hf 1 1 ⟨_,rfl,rfl,rfl⟩ zwd
    have e1:[c1]=[.bool a1]:=e1
    have ee:[c0] ++ [c1]=[.string a0] ++ [.bool a1]:=by rw [e0,e1]
    exact ⟨⟨a0,a1⟩,ee,o0⟩
theorem zwl:Try.prog.cellsOf 37=1:=by kernel_rfl
theorem opens_PointS:Opens (Sl DPoint) Try.prog 37:=zkw Try.underlying37 (by kernel_rfl) zwk
set_option maxRecDepth 100000 in
theorem zwm:Opens DSegment Try.prog 132:=by
  intro H enc w base spare held fuel cs x h
  obtain ⟨hl,hf⟩:=zkx Try.underlying132 h
  have hl:cs.length=5:=hl.trans (by kernel_rfl)
  match cs,hl with
  | [c0,c1,c2,c3,c4],_ =>
    obtain ⟨a0,e0,o0⟩:=zlx Try.underlying3 hf 0 0 ⟨_,rfl,rfl,rfl⟩ zwc
    have e0:[c0]=[.int .i64 a0]:=e0
    obtain ⟨a1,e1,o1⟩:=zlx Try.underlying3 hf 1 1 ⟨_,rfl,rfl,rfl⟩ zwc
    have e1:[c1]=[.int .i64 a1]:=e1
    obtain ⟨a2,e2,o2⟩:=zlx Try.underlying3 hf 2 2 ⟨_,rfl,rfl,rfl⟩ zwc
    have e2:[c2]=[.int .i64 a2]:=e2
    obtain ⟨a3,e3,o3⟩:=zlx Try.underlying3 hf 3 3 ⟨_,rfl,rfl,rfl⟩ zwc
    have e3:[c3]=[.int .i64 a3]:=e3
    obtain ⟨a4,e4⟩:=zly Try.underlying4 hf 4 4 ⟨_,rfl,rfl,rfl⟩ zwd
    have e4:[c4]=[.bool a4]:=e4
    have ee:[c0] ++ [c1] ++ [c2] ++ [c3] ++ [c4]=[.int .i64 a0] ++ [.int .i64 a1] ++ [.int .i64 a2] ++ [.int .i64 a3] ++ [.bool a4]:=by rw [e0,e1,e2,e3,e4]
    exact ⟨⟨a0,a1,a2,a3,a4⟩,ee,o0,o1,o2,o3⟩
theorem zwn:Try.prog.cellsOf 38=1:=by kernel_rfl
theorem opens_SegmentS:Opens (Sl DSegment) Try.prog 38:=zkw Try.underlying38 (by kernel_rfl) zwm
set_option maxRecDepth 100000 in
theorem zwo:Opens DChart Try.prog 40:=by
  intro H enc w base spare held fuel cs x h
  obtain ⟨hl,hf⟩:=zkx Try.underlying40 h
  have hl:cs.length=2:=hl.trans (by kernel_rfl)
  match cs,hl with
  | [c0,c1],_ =>
    obtain ⟨a0,e0,o0⟩:=opens_PointS.field hf 0 0 1 ⟨_,rfl,rfl,rfl⟩ zwl
    have e0:[c0]=Enc.enc a0:=e0
    obtain ⟨a1,e1,o1⟩:=opens_SegmentS.field hf 1 1 1 ⟨_,rfl,rfl,rfl⟩ zwn
    have e1:[c1]=Enc.enc a1:=e1
    have ee:[c0] ++ [c1]=Enc.enc a0 ++ Enc.enc a1:=by rw [e0,e1]
    exact ⟨⟨a0,a1⟩,ee,o0,o1⟩
set_option maxRecDepth 100000 in
theorem zwp:Opens DShip Try.prog 95:=by
  intro H enc w base spare held fuel cs x h
  obtain ⟨hl,hf⟩:=zkx Try.underlying95 h
  have hl:cs.length=6:=hl.trans (by kernel_rfl)
  match cs,hl with
  | [c0,c1,c2,c3,c4,c5],_ =>
    obtain ⟨a0,e0,o0⟩:=zlz Try.underlying9 hf 0 0 ⟨_,rfl,rfl,rfl⟩ zwe
    have e0:[c0]=[.string a0]:=e0
    obtain ⟨a1,e1,o1⟩:=zlx Try.underlying3 hf 1 1 ⟨_,rfl,rfl,rfl⟩ zwc
    have e1:[c1]=[.int .i64 a1]:=e1
    obtain ⟨a2,e2,o2⟩:=zlx Try.underlying3 hf 2 2 ⟨_,rfl,rfl,rfl⟩ zwc
    have e2:[c2]=[.int .i64 a2]:=e2
    obtain ⟨a3,e3,o3⟩:=zlx Try.underlying3 hf 3 3 ⟨_,rfl,rfl,rfl⟩ zwc
    have e3:[c3]=[.int .i64 a3]:=e3
    obtain ⟨a4,e4,o4⟩:=zlx Try.underlying3 hf 4 4 ⟨_,rfl,rfl,rfl⟩ zwc
    have e4:[c4]=[.int .i64 a4]:=e4
    obtain ⟨a5,e5⟩:=zly Try.underlying4 hf 5 5 ⟨_,rfl,rfl,rfl⟩ zwd
    have e5:[c5]=[.bool a5]:=e5
    have ee:[c0] ++ [c1] ++ [c2] ++ [c3] ++ [c4] ++ [c5]=[.string a0] ++ [.int .i64 a1] ++ [.int .i64 a2] ++ [.int .i64 a3] ++ [.int .i64 a4] ++ [.bool a5]:=by rw [e0,e1,e2,e3,e4,e5]
    exact ⟨⟨a0,a1,a2,a3,a4,a5⟩,ee,o0,o1,o2,o3,o4⟩
theorem zwq:Opens (Sl DShip) Try.prog 41:=zkw Try.underlying41 (by kernel_rfl) zwp
theorem zxR:Opens (Sl (Sl DPassage)) Try.prog 64:=zkw Try.underlying64 (by kernel_rfl) zwh
end Go.Proofs.Ytjiggadgmmjnhaa
