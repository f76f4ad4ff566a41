/- What functions of the given program compute, as contracts. -/
import Derived.Test.YtbkaaakphpbmiaaGreatSGBestPlanx15
import Derived.Test.YtbkaaakphpbmiaaGreatXGBestPlan22
import Derived.Test.YtbkaaakphpbmiaaGreatXGBestPlan24
import Derived.Test.YtbkaaakphpbmiaaGreatXGBestPlan8
import Derived.Test.YtbkaaakphpbmiaaGreatXGBestPlan9
set_option linter.unusedVariables false
set_option linter.unusedSimpArgs false
set_option maxRecDepth 4000
open Nat renaming reduceAdd → jq, reduceMul → jj, reduceBEq → jy, reduceLeDiff → jv, reduceLT → jk, reduceEqDiff → jx
open Bool renaming or_eq_false_iff → jp, or_eq_true → jQ, and_eq_true → jJ
open Int renaming toNat_natCast → jW, natCast_nonneg → jY
open Go.Proofs.Tryz renaming prog → jV
namespace Go.Proofs.YtbkaaakphpbmiaaGreat
open Go Go.SL
set_option maxHeartbeats 1000000
def zA0 (r:Option (List Nat)) (wn:List Nat) (v:Value) (gl:List U64) (wl:List Int):Prop:=match r with
 | none=>v=.bool false∧gl=grpL (znQ wn) wn∧wl=zs wn
 | some w=>v=.bool true∧wl=zs w
section
variable {hb h h2:Hp} {b most:Nat} {sets gs:Sl U64} {who:Sl Int}
theorem CV.flds (H:CV hb h b sets most gs who):h.lds (some ⟨b,0,none⟩) 1=some [sets.val]∧h.lds (some ⟨b,1,none⟩) 1=some [.int .i64 most]∧h.lds (some ⟨b,2,none⟩) 1=some [gs.val]∧h.lds (some ⟨b,3,none⟩) 1=some [who.val] :=
 ⟨zmG (xs:=[sets.val,.int .i64 most,gs.val,who.val]) H.1.2.2.2 rfl (by simp),zmG (xs:=[sets.val,.int .i64 most,gs.val,who.val]) H.1.2.2.2 rfl (by simp),zmG (xs:=[sets.val,.int .i64 most,gs.val,who.val]) H.1.2.2.2 rfl (by simp),zmG (xs:=[sets.val,.int .i64 most,gs.val,who.val]) H.1.2.2.2 rfl (by simp)⟩
theorem CV.gok {m:Nat} {wn:List Nat} (H:CV hb h b sets most gs who) (hg:gs.l=grpL m wn) (hl:wn.length≤12):gs.Ok h:=H.2.1.1.ok (by decide) fun x hx=>by
 rw [hg,grpL] at hx
 obtain ⟨p,_,rfl⟩:=List.mem_map.1 hx
 exact Nat.lt_of_lt_of_le zAL (Nat.pow_le_pow_right (by decide) (by omega))
end
theorem zA1 {wn:List Nat} {c:Nat} (h:∀ p,p < znQ wn→p ∈ wn) (hc:c≤znQ wn):∀ p,p < znQ (wn ++ [c])→p ∈ wn ++ [c]:=fun p hp=>by
 rw [znS] at hp
 rcases Nat.lt_or_ge p (znQ wn) with h1|h1
 ·exact List.mem_append_left _ (h p h1)
 ·have:p=c:=by omega
  subst this;exact List.mem_append_right _ (List.mem_singleton.2 rfl)
theorem zA2 (both:Nat→Nat→Bool) (hb:Hp) (b:Nat) (sets:Sl U64) (n most:Nat) (hn:sets.l.length=n) (hn12:n≤12) (hm:most≤12) (hs:∀ i (hi:i < sets.l.length) k,(sets.l[i].n).testBit k=(decide (k < n) && (decide (i ≠ k) && both i k))) :
  ∀ (f:Nat) (wn:List Nat) (gs:Sl U64) (who:Sl Int) (h:Hp),CV hb h b sets most gs who→gs.l=grpL (znQ wn) wn→who.l=zs wn→wn.length+f=n→(∀ p,p < znQ wn→p ∈ wn)→znQ wn≤most →
   Cw jV 310 [.pointer (some ⟨b,0,none⟩)] h (fun k=>hb k=none∧h k ≠ none) fun v h'=>∃ (gs':Sl U64) (who':Sl Int),CV hb h' b sets most gs' who'∧zA0 (znR both most f wn) wn v gs'.l who'.l
 | 0,wn,gs,who,h,H,hg,hw,hlen,hin,hum=>by
  have hwl:who.l.length=sets.l.length:=by rw [hw,zAH];omega
  obtain ⟨q0,q1,q2,q3⟩:=H.flds
  refine zlh (fun A W=>by simp) Tryz.func310 rfl rfl (by simp)  (fun k hk=>hk.2) fun W0 hW=>?_
  repeat' first|refine Wa ?_|(simp only [go_sem,jq,jj,jy,jv,jk,jx,q0,q3,hwl,true_or,true_and];try rfl)|refine Wb ?_|fail
  refine zc9 rfl (fun hq=>?_) (fun hq=>?_)
  ·refine Wk ?_
   exact ⟨gs,who,H,rfl,hw⟩
  ·simp at hq
 | f+1,wn,gs,who,h,H,hg,hw,hlen,hin,hum=>by
  have hwl:who.l.length=wn.length:=by rw [hw,zAH]
  have hne:¬ ((wn.length:Int)=sets.l.length):=by omega
  obtain ⟨q0,q1,q2,q3⟩:=H.flds
  refine zlh (fun A W=>by simp) Tryz.func310 rfl rfl (by simp)  (fun k hk=>hk.2) fun W0 hW=>?_
  have own:∀ k,hb k=none→h k=none∨W0.own k:=fun k hk=>by
   cases hh:h k with
   | none=>exact .inl rfl
   | some o=>exact .inr (hW k ⟨hk,by rw [hh];simp⟩)
  repeat' first|refine Wa ?_|(simp only [go_sem,jq,jj,jy,jv,jk,jx,q0,q3,hwl,true_or,true_and];try rfl)|refine Wb ?_|fail
  refine zc9 rfl (fun hq=>?_) (fun hq=>?_)
  ·exact (hne (eq_of_beq hq)).elim
  refine Wk ?_
  refine zde (ι:=Nat × Hp × Sl U64 × Sl Int) (fun i=>⟨[(0,true,.c (.v (.pointer (some ⟨b,0,none⟩)))),(2,true,.c (.v (.bool false))),(3,true,.c (.v (.int .i64 wn.length))),(4,true,.c (.v (.int .i64 i.1)))],[],i.2.1,0⟩) (fun i=>CV hb i.2.1 b sets most i.2.2.1 i.2.2.2∧i.2.2.1.l=grpL (znQ wn) wn∧i.2.2.2.l=zs wn∧i.1≤znQ wn∧∀ c,c < i.1→srGo both most f wn c=none) (fun i=>13 - i.1) (0,h,gs,who) ⟨H,hg,hw,Nat.zero_le _,fun c hc=>absurd hc (Nat.not_lt_zero _)⟩ ?_ ?_
  ·refine Evs ?_
   exact Gk
  rintro ⟨c,h1,gs1,who1⟩ ⟨H1,hg1,hw1,hcu,hno⟩
  simp only at H1 hg1 hw1 hcu hno
  have hgl:gs1.l.length=znQ wn:=by rw [hg1,zAI]
  obtain ⟨p0,p1,p2,p3⟩:=H1.flds
  repeat' first|refine Wa ?_|(simp only [go_sem,jq,jj,jy,jv,jk,jx,p1,p2,hgl,true_or,true_and];try rfl)|refine Wb ?_|fail
  refine zc9 rfl (fun hq=>?_) (fun hq=>?_)
  ·have hcm:c < most:=by
    rw [jJ,decide_eq_true_eq,decide_eq_true_eq] at hq
    omega
   repeat' first|refine Wa ?_|(simp only [go_sem,jq,jj,jy,jv,jk,jx,p1,p2,hgl,true_or,true_and];try rfl)|refine Wb ?_|fail
   refine znO (ι:=Hp × Sl U64) (fun i=>⟨[(0,true,.c (.v (.pointer (some ⟨b,0,none⟩)))),(2,true,.c (.v (.bool false))),(3,true,.c (.v (.int .i64 wn.length))),(4,true,.c (.v (.int .i64 c)))],[],i.1,0⟩) (fun i=>CV hb i.1 b sets most i.2 who1∧i.2.l=grpL (znQ (wn ++ [c])) wn) ?_ ?_
   ·refine zc9 rfl (fun hx=>?_) (fun hx=>?_)
    ·refine zmQ [0,0,0,0,0,0,3,0,0,1] rfl ?_
     simp only [go_sem,jq,jj,jy,jv,jk,jx,p2,true_or,true_and]
     refine znE (s:=gs1) rfl H1.2.1.1 (fun g hg=>own g (H1.2.1.2 g hg).1) ?_
     simp only [go_sem,jq,jj,jy,jv,jk,jx,p2,true_or,true_and]
     refine ⟨rfl,by simp only [maxLen];omega,by omega,fun ad cap h2 P=>?_⟩
     have hx:=eq_of_beq hx
     have huc:znQ (wn ++ [c])=znQ wn+1:=by rw [znS];omega
     have P':Pub (znC h1 gs1) 356 (Enc.size U64) (gs1.l ++ [(⟨0⟩:U64)]).length ((gs1.l ++ [(⟨0⟩:U64)]).flatMap Enc.enc) ad cap h2:=by
      rw [List.length_append,List.flatMap_append];exact P
     obtain ⟨b2,C2,-⟩:=H1.pubg P'
     refine zlC (by simp only [go_sem]) (by simp only [go_sem]) rfl rfl b2 (own b H1.1.2.2.1) (by simp) ?_
     refine Evs ?_
     refine ⟨(h2.ins b (.cells #[sets.val,.int .i64 most,(Sl.mk ad cap (gs1.l ++ [(⟨0⟩:U64)])).val,who1.val] 350 (0,0)),⟨ad,cap,gs1.l ++ [⟨0⟩]⟩),⟨C2,by rw [huc,hg1];exact zAU (Nat.le_refl _)⟩,?_⟩
     refine Evs ?_
     simp only [zn3,Sl.val,List.length_append,List.length_singleton]
    ·have hx:=ne_of_beq_false hx
     have huc:znQ (wn ++ [c])=znQ wn:=by rw [znS];omega
     refine Wk ?_
     refine ⟨(h1,gs1),⟨H1,by rw [hg1,huc]⟩,?_⟩
     exact Evc
   rintro ⟨h2,gs2⟩ ⟨H2,hg2⟩
   simp only at H2 hg2
   have hcu2:c < znQ (wn ++ [c]):=by rw [znS];omega
   have hum2:znQ (wn ++ [c])≤most:=by rw [znS];omega
   have hc2:c < gs2.l.length:=by rw [hg2,zAI];exact hcu2
   have hc2i:(c:Int) < gs2.l.length:=by omega
   have gok:=H2.gok hg2 (by omega)
   have hi:wn.length < sets.l.length:=by omega
   have hii:(wn.length:Int) < sets.l.length:=by omega
   have sok:=H2.1.2.1.mono H2.1.1
   have hv:gs2.l[c].n=grpM wn c:=by simp only [hg2,zAJ]
   obtain ⟨S,sv⟩:∃ S,sets.l[wn.length].n=S:=⟨_,rfl⟩
   have hfit:zzB (grpM wn c) S=0 ↔ znP both wn c=true:=zAV (n:=n) (by omega) hn12 (fun k=>by rw [← sv];exact hs _ hi k)
   have hgl62:grpM wn c < 2 ^ 12:=Nat.lt_of_lt_of_le zAL (Nat.pow_le_pow_right (by decide) (by omega))
   have hvb:zaE .andNot .u64 ((grpM wn c:Nat):Int) ((S:Nat):Int)=((zzB (grpM wn c) S:Nat):Int):=zzN (by omega)
   obtain ⟨r0,r1,r2,r3⟩:=H2.flds
   have hat1:=znI gok hc2
   have hat2:=znI sok hi
   simp only [Nat.mul_one] at hat1 hat2
   refine Wk ?_
   refine znv rfl ?_
   refine U_t [0,4,7,11,1,8,2,9,3,10,5,12,6,13,14,15] rfl ?_
   simp only [go_sem,jq,jj,jy,jv,jk,jx,r0,r2,hv,sv,hvb,hat1,gok.some hc2,hc2,hc2i,hat2,sok.some hi,hi,hii,jW,jY,Nat.mul_one,implies_true,true_and,and_true,and_self,true_or]
   refine U_d ?_
   refine Wk ?_
   refine znO (ι:=Hp × Sl U64 × Sl Int) (fun i=>⟨[(0,true,.c (.v (.pointer (some ⟨b,0,none⟩)))),(2,true,.c (.v (.bool false))),(3,true,.c (.v (.int .i64 wn.length))),(4,true,.c (.v (.int .i64 c)))],[],i.1,0⟩) (fun i=>CV hb i.1 b sets most i.2.1 i.2.2∧i.2.1.l=grpL (znQ (wn ++ [c])) wn∧i.2.2.l=zs wn∧srGo both most f wn c=none) ?_ ?_
   ·refine zc9 rfl (fun hx=>?_) (fun hx=>?_)
    ·have hfc:znP both wn c=true:=hfit.1 (by have:=eq_of_beq hx;omega)
     have hsh:=zAg (j:=wn.length) (by omega)
     have hpw:2 ^ wn.length≤2 ^ 12:=Nat.pow_le_pow_right (by decide) (by omega)
     have hor:zaE .or .u64 ((grpM wn c:Nat):Int) ((2 ^ wn.length:Nat):Int)=((grpM wn c ||| 2 ^ wn.length:Nat):Int):=zzL (by omega) (by omega)
     obtain ⟨g,cur,ga,gb,gsz,C3⟩:=H2.setg ⟨grpM wn c ||| 2 ^ wn.length⟩ hc2
     have hat3:=hat1
     simp only [ga,Option.map_some,za4,Nat.zero_add] at hat3
     refine Wk ?_
     refine znv rfl ?_
     refine U_t [0,4,7,1,8,2,3,5,6,9,10] rfl ?_
     simp only [go_sem,jq,jj,jy,jv,jk,jx,r0,r2,hv,hor,hsh,ga,hat3,hc2,hc2i,Option.map_some,za4,Option.isSome_some,jW,jY,Nat.mul_one,Nat.zero_add,Nat.add_zero,List.toList_toArray,implies_true,true_and,and_true,and_self,true_or]
     refine U_1 11 1 [] rfl rfl ?_
     simp only [go_sem,jq,jj,jy,jv,jk,jx,r0,r2,hv,hor,hsh,ga,hat3,hc2,hc2i,Option.map_some,za4,Option.isSome_some,jW,jY,Nat.mul_one,Nat.zero_add,Nat.add_zero,List.toList_toArray,implies_true,true_and,and_true,and_self,true_or]
     refine zlC (by simp only [go_sem]) (by simp only [go_sem]) rfl rfl gb (own g (H2.2.1.2 g ga).1) gsz ?_
     refine Evs ?_
     generalize h2.ins g (.cells (spl c [.int .u64 ((grpM wn c ||| 2 ^ wn.length:Nat):Int)] cur.toList).toArray 356 (0,0))=h3 at C3 ⊢
     refine U_d ?_
     obtain ⟨t0,t1,t2,t3⟩:=C3.flds
     have hwl1:who1.l.length=wn.length:=by rw [hw1,zAH]
     first|refine zmR [0,0,0,0,0,0,0,3,0,0,1] rfl ?_|refine zmQ [0,0,0,0,0,0,0,3,0,0,1] rfl ?_|(refine zc3 ?_;first|refine zmR [0,0,0,0,0,0,0,3,0,0,1] rfl ?_|refine zmQ [0,0,0,0,0,0,0,3,0,0,1] rfl ?_)
     simp only [go_sem,jq,jj,jy,jv,jk,jx,t3,true_or,true_and]
     refine znE (s:=who1) rfl C3.2.2.1.1 (fun g hg=>own g (C3.2.2.1.2 g hg).1) ?_
     simp only [go_sem,jq,jj,jy,jv,jk,jx,t3,true_or,true_and]
     refine ⟨rfl,by simp only [maxLen];omega,by omega,fun ad cap h4 P=>?_⟩
     have P':Pub (znC h3 who1) 3 (Enc.size Int) (who1.l ++ [(c:Int)]).length ((who1.l ++ [(c:Int)]).flatMap Enc.enc) ad cap h4:=by
      rw [List.length_append,List.flatMap_append];exact P
     obtain ⟨b4,C4,-⟩:=C3.pubw P'
     refine zlC (by simp only [go_sem]) (by simp only [go_sem]) rfl rfl b4 (own b H1.1.2.2.1) (by simp) ?_
     simp only [go_sem,jq,jj,jy,jv,jk,jx,zn4]
     rw [show (Sl.mk ad cap (who1.l ++ [(c:Int)])).val=.slice ad (who1.l.length+1) cap from by simp only [Sl.val,List.length_append,List.length_singleton]] at C4
     generalize h4.ins b (.cells #[sets.val,.int .i64 most,(Sl.mk gs2.a gs2.cap (gs2.l.set c ⟨grpM wn c ||| 2 ^ wn.length⟩)).val,.slice ad (who1.l.length+1) cap] 350 (0,0))=h5 at C4 ⊢
     first|refine zmR [0,1] rfl ?_|refine zmQ [0,1] rfl ?_|(refine zc3 ?_;first|refine zmR [0,1] rfl ?_|refine zmQ [0,1] rfl ?_)
     refine Evs ?_
     refine zli (zA2 both hb b sets n most hn hn12 hm hs f (wn ++ [c]) _ _ h5 C4 (by rw [hg2];exact zAQ hcu2) (by rw [hw1];simp [zs]) (by rw [List.length_append,List.length_singleton];omega) (zA1 hin hcu) hum2) rfl (fun k hk=>⟨hk.2,own k hk.1⟩) ?_
     rintro v h6 kp ⟨gs6,who6,C6,hout⟩
     cases hr:znR both most f (wn ++ [c]) with
     | some w =>
      rw [hr] at hout
      obtain ⟨rfl,hw6⟩:=hout
      refine Evs ?_
      refine Wk ?_
      refine zc9 rfl (fun hq=>?_) (fun hq=>?_)
      case refine_2=>cases hq
      refine Wk ?_
      have hgo:srGo both most f wn c=some w:=by rw [srGo,if_pos hfc];exact hr
      have hsr:znR both most (f+1) wn=some w:=by
       unfold znR
       exact zAG (α:=Nat) hno hgo (by omega)
      rw [hsr]
      exact ⟨gs6,who6,C6,rfl,hw6⟩
     | none =>
      rw [hr] at hout
      obtain ⟨rfl,hg6,hw6⟩:=hout
      refine Evs ?_
      refine Wk ?_
      refine zc9 rfl (fun hq=>?_) (fun hq=>?_)
      ·cases hq
      refine zc5 ?_
      refine Evs ?_
      have hwl6:who6.l.length=wn.length+1:=by rw [hw6,zAH,List.length_append,List.length_singleton]
      obtain ⟨t0,t1,t2,t3⟩:=C6.flds
      first|refine zmR [0,0,0,0,0,0,0,0,0,1] rfl ?_|refine zmQ [0,0,0,0,0,0,0,0,0,1] rfl ?_|(refine zc3 ?_;first|refine zmR [0,0,0,0,0,0,0,0,0,1] rfl ?_|refine zmQ [0,0,0,0,0,0,0,0,0,1] rfl ?_)
      simp only [go_sem,jq,jj,jy,jv,jk,jx,t3,true_or,true_and,Int.toNat_zero,Nat.zero_mul,zmA,zmB,ite_self,Nat.sub_zero]
      have hcap6:=C6.2.2.1.1.1
      refine ⟨by omega,?_⟩
      rw [zmC (by omega)]
      have C7:=C6.tow (k:=wn.length) (by omega)
      refine zlC (by simp only [go_sem]) (by simp only [go_sem]) rfl rfl C6.1.2.2.2 (own b H1.1.2.2.1) (by simp) ?_
      simp only [go_sem,jq,jj,jy,jv,jk,jx,zn4]
      generalize h6.ins b (.cells #[sets.val,.int .i64 most,gs6.val,(who6.to wn.length).val] 350 (0,0))=h7 at C7 ⊢
      have hc7:c < gs6.l.length:=by rw [hg6,zAI];exact hcu2
      have hc7i:(c:Int) < gs6.l.length:=by omega
      have gok7:=C7.gok hg6 (by rw [List.length_append,List.length_singleton];omega)
      have hv3:gs6.l[c].n=grpM (wn ++ [c]) c:=by simp only [hg6,zAJ]
      have hat7:=znI gok7 hc7
      have hgl7:grpM (wn ++ [c]) c < 2 ^ 13:=Nat.lt_of_lt_of_le zAL (Nat.pow_le_pow_right (by decide) (by rw [List.length_append,List.length_singleton];omega))
      have hand:zaE .andNot .u64 ((grpM (wn ++ [c]) c:Nat):Int) ((2 ^ wn.length:Nat):Int)=((grpM wn c:Nat):Int):=by rw [zzN (by omega),zAR (by omega)]
      obtain ⟨g7,cur7,ga7,gb7,gsz7,C8⟩:=C7.setg ⟨grpM wn c⟩ hc7
      simp only [Nat.mul_one,ga7,Option.map_some,za4,Nat.zero_add] at hat7
      obtain ⟨t0,t1,t2,t3⟩:=C7.flds
      refine znv rfl ?_
      refine U_t [0,4,7,1,8,2,3,5,6,9,10] rfl ?_
      simp only [go_sem,jq,jj,jy,jv,jk,jx,t2,hv3,hand,hsh,ga7,hat7,hc7,hc7i,Option.map_some,za4,Option.isSome_some,jW,jY,Nat.mul_one,Nat.zero_add,Nat.add_zero,List.toList_toArray,implies_true,true_and,and_true,and_self,true_or]
      refine U_1 11 1 [] rfl rfl ?_
      simp only [go_sem,jq,jj,jy,jv,jk,jx,t2,hv3,hand,hsh,ga7,hat7,hc7,hc7i,Option.map_some,za4,Option.isSome_some,jW,jY,Nat.mul_one,Nat.zero_add,Nat.add_zero,List.toList_toArray,implies_true,true_and,and_true,and_self,true_or]
      refine zlC (by simp only [go_sem]) (by simp only [go_sem]) rfl rfl gb7 (own g7 (C7.2.1.2 g7 ga7).1) gsz7 ?_
      refine Evs ?_
      generalize h7.ins g7 (.cells (spl c [.int .u64 ((grpM wn c:Nat):Int)] cur7.toList).toArray 356 (0,0))=h8 at C8 ⊢
      refine U_d ?_
      refine ⟨(h8,_,_),⟨C8,by simp only [hg6];exact zAS hcu2,?_,by rw [srGo,if_pos hfc];exact hr⟩,?_⟩
      ·show who6.l.take wn.length=zs wn
       rw [hw6,zs,List.map_append,List.take_append_of_le_length (by rw [List.length_map];exact Nat.le_refl _)]
       exact List.take_of_length_le (by rw [List.length_map];exact Nat.le_refl _)
      exact Evc
    ·have hfc:znP both wn c=false:=by
      rw [← Bool.not_eq_true,← hfit]
      have:=ne_of_beq_false hx;omega
     refine Wk ?_
     refine ⟨(h2,gs2,who1),⟨H2,hg2,hw1,by rw [srGo,if_neg (by rw [hfc];exact Bool.false_ne_true)]⟩,?_⟩
     exact Evc
   rintro ⟨h9,gs9,who9⟩ ⟨H9,hg9,hw9,hn9⟩
   simp only at H9 hg9 hw9 hn9
   have hc9:c < gs9.l.length:=by rw [hg9,zAI];exact hcu2
   have hc9i:(c:Int) < gs9.l.length:=by omega
   have gok9:=H9.gok hg9 (by omega)
   have hv9:gs9.l[c].n=grpM wn c:=by simp only [hg9,zAJ]
   have hat9:=znI gok9 hc9
   simp only [Nat.mul_one] at hat9
   obtain ⟨t0,t1,t2,t3⟩:=H9.flds
   repeat' first|refine Wa ?_|(simp only [go_sem,jq,jj,jy,jv,jk,jx,t2,hv9,hat9,gok9.some hc9,hc9,hc9i,jW,jY,Nat.mul_one,implies_true,true_and,and_true,and_self,true_or];try rfl)|refine Wb ?_|fail
   refine zc9 rfl (fun hz=>?_) (fun hz=>?_)
   ·have hz:grpM wn c=0:=by have:=eq_of_beq hz;omega
    have hce:c=znQ wn:=by
     rcases Nat.lt_or_ge c (znQ wn) with h1|h1
     ·exact (zAN (hin c h1) hz).elim
     ·omega
    first|refine zmR [0,0,0,0,0,0,0,0,0,1] rfl ?_|refine zmQ [0,0,0,0,0,0,0,0,0,1] rfl ?_|(refine zc3 ?_;first|refine zmR [0,0,0,0,0,0,0,0,0,1] rfl ?_|refine zmQ [0,0,0,0,0,0,0,0,0,1] rfl ?_)
    simp only [go_sem,jq,jj,jy,jv,jk,jx,t2,true_or,true_and,Int.toNat_zero,Nat.zero_mul,zmA,zmB,ite_self,Nat.sub_zero]
    have hcap9:=H9.2.1.1.1
    refine ⟨by omega,?_⟩
    rw [zmC (by omega)]
    have C10:=H9.tog (k:=c) (by omega)
    refine zlC (by simp only [go_sem]) (by simp only [go_sem]) rfl rfl H9.1.2.2.2 (own b H1.1.2.2.1) (by simp) ?_
    simp only [go_sem,jq,jj,jy,jv,jk,jx,zn3]
    refine Wk ?_
    have hnone:znR both most (f+1) wn=none:=by
     unfold znR
     rw [List.findSome?_eq_none_iff]
     intro x hx
     have hx:=List.mem_range.1 hx
     rcases Nat.lt_or_ge x c with h1|h1
     ·exact hno x h1
     ·obtain rfl:x=c:=by omega
      exact hn9
    rw [hnone]
    refine ⟨_,_,C10,rfl,?_,hw9⟩
    show gs9.l.take c=_
    rw [hg9,zAT (by omega),hce]
   ·have hz:¬ grpM wn c=0:=by have:=ne_of_beq_false hz;omega
    have hce:c < znQ wn:=by
     rcases Nat.lt_or_ge c (znQ wn) with h1|h1
     ·exact h1
     ·exact (hz (zAM h1)).elim
    have huc:znQ (wn ++ [c])=znQ wn:=by rw [znS];omega
    refine Wk ?_
    refine ⟨(c+1,h9,gs9,who9),⟨H9,by rw [hg9,huc],hw9,by omega,fun c' hc'=>?_⟩,by simp only;omega,zjB (zjA (n:=4096) (k:=c) (by omega) (by omega)),rfl⟩
    rcases Nat.lt_or_ge c' c with h1|h1
    ·exact hno c' h1
    ·obtain rfl:c'=c:=by omega
     exact hn9
  ·have hge:most≤c:=by
    rw [Bool.and_eq_false_iff,decide_eq_false_iff_not,decide_eq_false_iff_not] at hq
    omega
   have hnone:znR both most (f+1) wn=none:=by
    unfold znR
    rw [List.findSome?_eq_none_iff]
    exact fun x hx=>hno x (by have:=List.mem_range.1 hx;omega)
   rw [hnone]
   refine Wk ?_
   exact ⟨gs1,who1,H1,rfl,hg1,hw1⟩
def zA3 (p:Int) (m:List Int) (l:List DDuty) (i k:Nat):Bool:=fol2 p m (l.getD i dD) (l.getD k dD)
def zA4 (both:Nat→Nat→Bool) (n:Nat):Option (List Nat × Nat):=(List.range (n+1)).findSome? fun k=>(znR both k n []).map fun w=>(w,k)
def zA5 (p:Int) (m:List Int) (l:List DDuty):Bool:=zz2 l && (In p 0 2880 && zvm m)
def zA6 (p:Int) (m:List Int) (l:List DDuty):List Int × Int × Bool:=if zA5 p m l=true then (match zA4 (zA3 p m l) l.length with|some (w,k)=>(zs w,(k:Int),true)|none=>([],0,false)) else ([],0,false)
theorem zA7 {both:Nat→Nat→Bool} {n k:Nat}:(znR both k n []).isSome=true ↔ CovOn both (fun i=>i < n) k:=znX
theorem zA8 {both:Nat→Nat→Bool} {n k:Nat} {w:List Nat} (h:∀ j,j < k→znR both j n []=none) (hw:znR both k n []=some w) (hk:k≤n):zA4 both n=some (w,k):=by
 unfold zA4
 exact zAG (α:=Nat) (n:=k) (fun c hc=>by rw [h c hc];rfl) (by rw [hw];rfl) (by omega)
theorem zA9 {both:Nat→Nat→Bool} {n m:Nat} (H:zzO both (2 ^ n - 1) m):∃ w,znR both m n []=some w∧zA4 both n=some (w,m)∧m≤n:=by
 have e:(fun i=>(2 ^ n - 1).testBit i=true)=fun i=>i < n:=by
  funext i;rw [Nat.testBit_two_pow_sub_one,decide_eq_true_eq]
 obtain ⟨h1,h2⟩:=H
 rw [e] at h1 h2
 obtain ⟨w,hw⟩:=Option.isSome_iff_exists.1 (zA7.2 h1)
 have hm:m≤n:=h2 n (CovOn.id fun i hi=>hi)
 refine ⟨w,hw,zA8 (fun j hj=>?_) hw hm,hm⟩
 cases hh:znR both j n [] with
 | none=>rfl
 | some w' =>
  have:=h2 j (zA7.1 (by rw [hh];rfl))
  omega
theorem z0y {both:Nat→Nat→Bool} {n:Nat}:(zA4 both n).isSome=true:=by
 obtain ⟨w,hw⟩:=Option.isSome_iff_exists.1 (zA7.2 (CovOn.id (both:=both) (s:=fun i=>i < n) fun i hi=>hi))
 rw [Option.isSome_iff_ne_none]
 intro hn
 unfold zA4 at hn
 rw [List.findSome?_eq_none_iff] at hn
 have:=hn n (List.mem_range.2 (by omega))
 rw [hw] at this;cases this
theorem zBa {l:List DDuty} (h:zz2 l=true):l.length≤12∧∀ i (hi:i < l.length),zz1 l[i]=true:=by
 rw [zz2,jJ,decide_eq_true_eq,List.all_eq_true] at h
 exact ⟨h.1,fun i hi=>h.2 _ (List.getElem_mem hi)⟩
theorem zBb {p:Int} {m:List Int} {l:List DDuty} (h:zA5 p m l=true):zz2 l=true∧In p 0 2880=true∧zvm m=true:=by
 rw [zA5,jJ,jJ] at h;exact h
theorem zBc {p:Int} {m:List Int} {l:List DDuty} (h:zA5 p m l=false):zA6 p m l=([],0,false):=by rw [zA6,if_neg (by rw [h];exact Bool.false_ne_true)]
theorem zBd {p:Int} {m:List Int} {l:List DDuty} {w:List Nat} {k:Nat} (h:zA5 p m l=true) (hw:zA4 (zA3 p m l) l.length=some (w,k)):zA6 p m l=(zs w,(k:Int),true):=by rw [zA6,if_pos h,hw]
theorem z0z {p:Int} {m:List Int} {l:List DDuty} (h:zA5 p m l=true):(zA6 p m l).2.2=true:=by
 obtain ⟨w,hw⟩:=Option.isSome_iff_exists.1 (z0y (both:=zA3 p m l) (n:=l.length))
 rw [zBd h hw]
theorem zBe {e:TypeId} {h h':Hp} {s:Sl Int} (H:RowAt e h' s) (hf:∀ g,s.a=some ⟨g,0,none⟩→h g=none):Mine h h' s:=by
 by_cases hl:s.l=[]
 ·rcases s with ⟨a,c,l⟩
  simp only at hl;subst hl;exact Mine.nil
 ·obtain ⟨h1,h2,⟨ha,hl',hc⟩|⟨g,cur,ha,hb,hsz,htk⟩⟩:=H
  ·exact (hl hl').elim
  ·have e0:s.l.flatMap (Foot.foot (α:=Int))=[]:=by rw [List.flatMap_eq_nil_iff];exact fun x _=>rfl
   have e1:Foot.foot s=[g]:=by
    rw [show Foot.foot s=_ from Sl.foot_ne hl,e0]
    simp [Sl.blkOf,ha]
   refine ⟨fun _=>⟨⟨g,cur,e,ha,hb,hsz⟩,fun x _=>trivial⟩,fun b hb'=>?_,by rw [e1];simp⟩
   rw [e1,List.mem_singleton] at hb'
   subst hb';exact hf _ ha
theorem zBf (p:Int) (m:Sl Int) (a:Sl DDuty) (h:Hp) (hm:m.Ok h) (ha:a.Ok h):Ct jV 307 [.int .i64 p,m.val,a.val] h fun v h'=>v=.bool (zA5 p m.l a.l)∧h'=h:=by
 refine zdn (fun A W=>by simp) Tryz.func307 rfl rfl (by simp) fun W0=>?_
 repeat' first|refine Wa ?_|refine zhF (fun _=>zz5 a _ ha) ?_|refine zhF (fun _=>zun _ _) ?_|refine zhF (fun _=>zvv m _ hm) ?_|(simp only [go_sem,jq,jj,jy,jv,jk,jx];try rfl)|refine Wb ?_|fail
 congr 1;rw [Bool.eq_iff_iff];simp only [zA5,In,jJ,jQ,Bool.not_eq_true',decide_eq_true_eq,decide_eq_false_iff_not,beq_iff_eq,and_assoc]
theorem z0A (p:Int) (m:Sl Int) (a:Sl DDuty) (h:Hp) (hm:m.Ok h) (ha:a.Ok h):Ct jV 285 [.int .i64 p,m.val,a.val] h fun v h'=>∃ s:Sl Int,v=.tuple #[s.val,.int .i64 (zA6 p m.l a.l).2.1,.bool (zA6 p m.l a.l).2.2]∧s.l=(zA6 p m.l a.l).1∧s.Ok h'∧Mine h h' s:=by
 refine zdn (fun A W=>by simp) Tryz.func285 rfl rfl (by simp) fun W0=>?_
 repeat' first|refine Wa ?_|refine zhF (fun _=>z0l a _ ha) ?_|refine zhF (fun _=>zZd p m _ hm) ?_|(simp only [go_sem,jq,jj,jy,jv,jk,jx];try rfl)|refine Wb ?_|fail
 refine zc9 rfl (fun hq=>?_) (fun hq=>?_)
 ·rw [zBc (by
   rw [zA5]
   simp only [jQ,Bool.not_eq_true'] at hq
   rcases hq with hq|hq
   ·rw [hq];rfl
   ·rw [hq,Bool.and_false])]
  refine Wk ?_
  exact ⟨⟨none,0,[]⟩,rfl,rfl,zmo,Mine.nil⟩
 simp only [jp,Bool.not_eq_false'] at hq
 have hcov:zA5 p m.l a.l=true:=by rw [zA5,hq.1,hq.2];rfl
 obtain ⟨hD,hP,hT⟩:=zBb hcov
 obtain ⟨h12,hall⟩:=zBa hD
 refine Wk ?_
 refine zkj (z0p p m a _ hm hP hT ha h12 hall) rfl ?_
 rintro v h1 le1 ⟨bo,rfl,hbm,hbok⟩
 have hbn:bo.l.length=a.l.length:=by have:=congrArg List.length hbm;simpa [z0o] using this
 have hbl:∀ i (hi:i < bo.l.length),bo.l[i].l.length=a.l.length∧∀ k (hk:k < bo.l[i].l.length),k < i→bo.l[i].l[k]=zA3 p m.l a.l i k:=fun i hi=>by
  have e:bo.l[i].l=a.l.map fun e=>fol2 p m.l (a.l[i]'(by omega)) e:=by
   have:=congrArg (fun l=>l[i]?) hbm
   simp only [z0o,List.getElem?_map,List.getElem?_eq_getElem hi,List.getElem?_eq_getElem (show i < a.l.length by omega),Option.map_some] at this
   exact Option.some.inj this
  refine ⟨by rw [e,List.length_map],fun k hk hki=>?_⟩
  have hk':k < a.l.length:=by rw [e,List.length_map] at hk;exact hk
  simp only [e,List.getElem_map]
  rw [zA3,dget (by omega),dget hk']
 refine Wk ?_
 refine zl0 (ι:=Nat × Hp) (fun i=>⟨[(2,true,.c (.v a.val)),(6,true,.c (.v (.slice none 0 0))),(7,true,.c (.v (.int .i64 0))),(8,true,.c (.v (.bool false))),(9,true,.c (.v bo.val)),(10,true,.c (.v (.int .i64 i.1)))],[],i.2,0⟩) (fun i=>i.1≤a.l.length+1∧h1.le i.2∧∀ j,j < i.1→znR (zA3 p m.l a.l) j a.l.length []=none) (fun i=>a.l.length+1 - i.1) (0,h1) ⟨Nat.zero_le _,Hp.le_refl _,fun c hc=>absurd hc (Nat.not_lt_zero _)⟩ [] ?_ ?_
 ·refine Evs ?_
  exact Gk
 rintro ⟨k,hk⟩ ⟨hkn,hle,hno⟩
 simp only at hkn hle hno
 refine Wk ?_
 refine zc9 rfl (fun hd=>?_) (fun hd=>?_)
 ·have hlt:k≤a.l.length:=by have:=of_decide_eq_true hd;omega
  refine zc5 ?_
  refine Evs ?_
  refine zc3 ?_
  refine zc8 ?_
  refine zmR [0,2] rfl ?_
  refine Evs ?_
  refine fun ad cap g1 H=>?_
  have H':Pub hk _ (Enc.size Int) ([]:List Int).length (([]:List Int).flatMap Enc.enc) ad cap g1:=H
  have k1:(Sl.mk ad cap ([]:List Int)).Ok g1:=Pub.sl (by decide) H' (fun x hx=>by cases hx)
  refine zkj (z0x (zA3 p m.l a.l) bo a.l.length hbn hbl h12 k (by omega) a.l.length (Sl.mk ad cap []) [] g1 (hbok.mono (Hp.le_trans hle H.le)) k1 rfl (by simp) (fun x hx=>by cases hx)) rfl ?_
  rintro v g2 le2 Hout
  cases hr:znR (zA3 p m.l a.l) k a.l.length [] with
  | none =>
   rw [hr] at Hout
   have Hout:v=.tuple #[.slice none 0 0,.bool false]:=Hout
   subst Hout
   refine Evs ?_
   refine Wk ?_
   refine zc9 rfl (fun hq=>?_) (fun hq=>?_)
   ·cases hq
   refine Wk ?_
   refine ⟨(k+1,g2),[],⟨by omega,Hp.le_trans hle (Hp.le_trans H.le le2),fun j hj=>?_⟩,by simp only;omega,?_⟩
   ·rcases Nat.lt_or_ge j k with h1|h1
    ·exact hno j h1
    ·obtain rfl:j=k:=by omega
     exact hr
   refine Evs ?_
   refine ⟨zjB (zjA (n:=4096) (k:=k) (by omega) (by omega)),Hp.le_trans le1 (Hp.le_trans hle (Hp.le_trans H.le le2)),?_⟩
   exact Gk
  | some w =>
   rw [hr] at Hout
   obtain ⟨s,rfl,hs1,hs2,hs3⟩:=Hout
   refine Evs ?_
   refine Wk ?_
   refine zc9 rfl (fun hq=>?_) (fun hq=>?_)
   case refine_2=>cases hq
   refine Wk ?_
   rw [zBd hcov (zA8 hno hr hlt)]
   refine ⟨s,rfl,hs1,hs2,?_⟩
   rcases hs3 with h3|rfl
   ·exact h3.back (Hp.le_trans le1 (Hp.le_trans hle H.le))
   ·exact Mine.nil
 ·exfalso
  have hge:a.l.length < k:=by have:=of_decide_eq_false hd;omega
  obtain ⟨w,hw⟩:=Option.isSome_iff_exists.1 (zA7.2 (CovOn.id (both:=zA3 p m.l a.l) (s:=fun i=>i < a.l.length) fun i hi=>hi))
  rw [hno _ hge] at hw;cases hw
theorem zBg (p:Int) (m:Sl Int) (a:Sl DDuty) (h:Hp) (hm:m.Ok h) (ha:a.Ok h):Ct jV 289 [.int .i64 p,m.val,a.val] h fun v h'=>∃ s:Sl Int,v=.tuple #[s.val,.int .i64 (zA6 p m.l a.l).2.1,.bool (zA6 p m.l a.l).2.2]∧s.l=(zA6 p m.l a.l).1∧s.Ok h'∧Mine h h' s:=by
 refine zdn (fun A W=>by simp) Tryz.func289 rfl rfl (by simp) fun W0=>?_
 repeat' first|refine Wa ?_|refine zhF (fun _=>zBf p m a _ hm ha) ?_|(simp only [go_sem,jq,jj,jy,jv,jk,jx];try rfl)|refine Wb ?_|fail
 refine zc9 rfl (fun hq=>?_) (fun hq=>?_)
 ·rw [Bool.not_eq_true'] at hq
  rw [zBc hq]
  refine Wk ?_
  exact ⟨⟨none,0,[]⟩,rfl,rfl,zmo,Mine.nil⟩
 rw [Bool.not_eq_false'] at hq
 have hcov:=hq
 obtain ⟨hD,hP,hT⟩:=zBb hcov
 obtain ⟨h12,hall⟩:=zBa hD
 refine Wk ?_
 refine zkj (zAn p m a _ hm hP hT ha h12 hall) rfl ?_
 rintro v h1 le1 ⟨sets,rfl,hsl,hsok,hsm⟩
 have hsn:sets.l.length=a.l.length:=by rw [hsl,parL,List.length_map,List.length_range]
 have hsb:∀ i (hi:i < sets.l.length) k,(sets.l[i].n).testBit k=(decide (k < a.l.length) && (decide (i ≠ k) && zA3 p m.l a.l i k)):=fun i hi k=>by
  have:sets.l[i]=⟨zzY (parP p m.l a.l i) a.l.length⟩:=by
   have e:=congrArg (fun l=>l[i]?) hsl
   simp only [parL,List.getElem?_eq_getElem hi,List.getElem?_map,List.getElem?_range (show i < a.l.length by omega),Option.map_some] at e
   exact Option.some.inj e
  rw [this]
  exact zzZ
 refine Wk ?_
 refine zkj (zAF (zA3 p m.l a.l) sets _ hsok (by omega) (fun i hi k=>by rw [hsb i hi k,hsn])) rfl ?_
 rintro v h2 le2 ⟨⟨mm,rfl,hmm⟩,rfl⟩
 rw [hsn] at hmm
 obtain ⟨w,hw1,hw2,hmn⟩:=zA9 hmm
 refine Evs ?_
 refine zmE 0 rfl rfl fun g hg hown=>?_
 refine Evs ?_
 have C0:CV h2 (h2.ins g (.cells #[sets.val,.int .i64 mm,(Sl.mk none 0 []:Sl U64).val,(Sl.mk none 0 []:Sl Int).val] 350 (0,0))) g sets mm (Sl.mk none 0 []) (Sl.mk none 0 []) :=
  ⟨⟨Hp.ins_le hg,hsok,hg,Hp.ins_same⟩,⟨⟨Nat.le_refl _,Nat.zero_le _,.inl ⟨rfl,rfl,rfl⟩⟩,fun g hg=>by cases hg⟩,⟨⟨Nat.le_refl _,Nat.zero_le _,.inl ⟨rfl,rfl,rfl⟩⟩,fun g hg=>by cases hg⟩,fun g hg=>by cases hg⟩
 first|refine zmR [0,1] rfl ?_|(refine zc3 ?_;refine zmQ [0,1] rfl ?_)
 refine Evs ?_
 refine zli (zA2 (zA3 p m.l a.l) h2 g sets a.l.length mm hsn h12 (by omega) hsb a.l.length [] (Sl.mk none 0 []) (Sl.mk none 0 []) _ C0 rfl rfl (by simp) (fun p hp=>absurd hp (Nat.not_lt_zero _)) (Nat.zero_le _)) rfl (fun k hk=>⟨hk.2,.inl ?_⟩) ?_
 ·have:h2 k=none:=hk.1
  cases hh:h k with
  | none=>first|rfl|exact hh
  | some o=>rw [le1 k o hh] at this;cases this
 rintro v h6 kp ⟨gs6,who6,C6,hout⟩
 rw [hw1] at hout
 obtain ⟨rfl,hw6⟩:=hout
 refine Evs ?_
 obtain ⟨t0,t1,t2,t3⟩:=C6.flds
 have hok:=znU (most:=mm) ⟨fun i hi=>absurd hi (Nat.not_lt_zero _),fun i k hi=>absurd hi (Nat.not_lt_zero _)⟩ hw1
 have hmok:who6.Ok h6:=C6.2.2.1.1.ok (by decide) fun x hx=>by
  rw [hw6] at hx
  obtain ⟨y,hy,rfl⟩:=List.mem_map.1 hx
  obtain ⟨i,hi,rfl⟩:=List.getElem_of_mem hy
  have:=hok.1.1 i hi
  show I64 _;unfold I64;omega
 refine Wk ?_
 refine znv rfl ?_
 refine U_t [0,4,1,5,2,6,3,7,8,9,10] rfl ?_
 simp only [go_sem,jq,jj,jy,jv,jk,jx,t1,t3,true_or,true_and]
 refine U_d ?_
 refine Wk ?_
 rw [zBd hcov hw2]
 exact ⟨who6,rfl,hw6,hmok,zBe C6.2.2.1.1 fun g hg=>zmx le1 (C6.2.2.1.2 g hg).1⟩
theorem zBh {s:DShip} {g:DSegment} (h:1≤g.minutes∧g.minutes≤240):1≤zvG s g∧zvG s g≤480:=by
 unfold zvG
 split
 ·rw [zjz (by omega)];omega
 ·omega
theorem zBi {c:PChart} (h:zva c=true) {i:Nat} (hi:i < c.segments.length):1≤(c.segments.getD i dG).minutes∧(c.segments.getD i dG).minutes≤240:=by
 simp only [zva,jJ,decide_eq_true_eq] at h
 have:=h.2 i hi
 simp only [zu9,zu7,jJ,decide_eq_true_eq] at this
 exact ⟨this.1.2.2.2.2.2.2.2.1,this.1.2.2.2.2.2.2.2.2⟩
theorem zBj {c:PChart} (h:zva c=true):c.points.length≤8∧∀ i,i < c.segments.length→0≤(c.segments.getD i dG).a∧(c.segments.getD i dG).a < c.points.length∧0≤(c.segments.getD i dG).b∧(c.segments.getD i dG).b < c.points.length:=by
 simp only [zva,jJ,decide_eq_true_eq] at h
 refine ⟨h.1.1.1,fun i hi=>?_⟩
 have:=h.2 i hi
 simp only [zu9,zu7,jJ,decide_eq_true_eq] at this
 exact ⟨this.1.1,this.1.2.1,this.1.2.2.1,this.1.2.2.2.1⟩
theorem zBk {c:PChart} {f:List DShip} {p:DPassage} (h:zvI c f p=true):zva c=true∧0≤p.seg∧p.seg < c.segments.length∧0≤p.start∧p.start < p.fin∧p.fin≤2880:=by
 rw [zvI,jJ,jJ,zvH,jJ,decide_eq_true_eq,decide_eq_true_eq] at h
 obtain ⟨⟨h1,h2⟩,⟨h3,h4,h5,h6,h7,h8,h9⟩,h10⟩:=h
 have hm:=zBh (s:=f.getD p.ship.toNat dH) (zBi h1 (i:=p.seg.toNat) (by omega))
 rw [zjz (by omega)] at h10
 exact ⟨h1,h5,h6,h7,by omega,h9⟩
theorem zBl {c:PChart} (h:zva c=true) {p:DPassage} (h0:0≤p.seg) (h1:p.seg < c.segments.length):0≤(zvF c p).1∧(zvF c p).1 < 8∧0≤(zvF c p).2∧(zvF c p).2 < 8:=by
 obtain ⟨h2,h3⟩:=zBj h
 have:=h3 p.seg.toNat (by omega)
 unfold zvF
 split <;> (dsimp only;omega)
theorem zBm {c:PChart} {f:List DShip} {p q:DPassage} (h:zvI c f p=true) (h2:zvI c f q=true) (hpq:p.start < q.fin):zz1 (zxA c p q)=true:=by
 obtain ⟨a1,a2,a3,a4,a5,a6⟩:=zBk h
 obtain ⟨_,b2,b3,b4,b5,b6⟩:=zBk h2
 have e1:=zBl a1 a2 a3
 have e2:=zBl a1 b2 b3
 unfold zz1 zxA
 rw [decide_eq_true_eq]
 dsimp only
 omega
theorem zKg {c:PChart} {f:List DShip} {l:List DPassage} {d:List DDuty} (h:zJ4 c f l=some d):zz2 d=true:=by
 rw [zJ4] at h
 split at h
 ·rename_i hq
  simp only [Option.some.injEq] at h
  subst h
  rw [zz2,jJ,decide_eq_true_eq,List.all_eq_true]
  refine ⟨hq.2,fun x hx=>?_⟩
  obtain ⟨y,hy,hxy⟩:=List.mem_flatMap.1 hx
  obtain ⟨i,hi,rfl⟩:=List.getElem_of_mem hy
  have hp:=hq.1 i hi
  rw [pOk,qget hi] at hp
  rw [(List.mem_replicate.1 hxy).2]
  exact zBm hp hp (zBk hp).2.2.2.2.1
 ·cases h
def zKh (w:PCrew) (c:PChart) (f:List DShip) (l:List DPassage):Int:=match zJ4 c f l with
 | none=>-1
 | some d=>if zvn w=true then (zA6 0 w.moves d).2.1 else -1
theorem zBn {w:PCrew} (h:zvn w=true):In w.rest 0 2880=true∧zvm w.moves=true:=by
 simp only [zvn,jJ] at h
 exact h.2
theorem zBo (w:DCrew):(Con.con w).moves=w.moves.l:=con_ints
theorem z0B (w:DCrew) (c:DChart) (f:Sl DShip) (a:Sl DPassage) (h:Hp) (hw:Enc.ok h w) (hc:Enc.ok h c) (hf:f.Ok h) (ha:a.Ok h):Ct jV 259 [w.v,c.v,f.val,a.val] h fun v h'=>v=.int .i64 (zKh (Con.con w) (Con.con c) f.l a.l)∧h'=h:=by
 refine Ct.forget ?_
 refine zdn (fun A W=>by simp) Tryz.func259 rfl rfl (by simp) fun W0=>?_
 refine Wk ?_
 refine zkj (z0j c f a _ hc hf ha) rfl ?_
 rintro v h1 le1 ⟨s,rfl,e1,ok1,m1⟩
 have hw1:Enc.ok h1 w:=Enc.mono le1 hw
 repeat' first|refine Wa ?_|refine zhF (fun _=>zZe w _ hw1) ?_|(simp only [go_sem,jq,jj,jy,jv,jk,jx];try rfl)|refine Wb ?_|fail
 refine zc9 rfl (fun hq=>?_) (fun hq=>?_)
 ·simp only [jQ,Bool.not_eq_true',Option.isSome_eq_false_iff,Option.isNone_iff_eq_none] at hq
  refine Wk ?_
  rw [zKh]
  rcases hq with hq|hq
  ·cases zJ4 (Con.con c) f.l a.l with
   | none=>rfl
   | some d=>dsimp only;rw [if_neg (by rw [hq];exact Bool.false_ne_true)]
  ·rw [hq]
 simp only [jp,Bool.not_eq_false'] at hq
 obtain ⟨hC,hS⟩:=hq
 obtain ⟨d,hd⟩:=Option.isSome_iff_exists.1 hS
 rw [hd] at e1
 have e1:s.l=d:=e1
 have hfine:(zA6 0 w.moves.l s.l).2.2=true:=z0z (by rw [zA5,e1,zKg hd,← zBo,(zBn hC).2];rfl)
 refine Wk ?_
 refine zkj (z0A 0 w.moves s _ hw1.2.2.2 ok1) rfl ?_
 rintro v h2 le2 ⟨s2,rfl,e2,ok2,m2⟩
 rw [hfine]
 refine Wk ?_
 refine zc9 rfl (fun hq=>?_) (fun hq=>?_)
 ·cases hq
 refine Wk ?_
 rw [zKh,hd]
 dsimp only
 rw [if_pos hC,zBo,e1]
def pilL (c:PChart) (f:List DShip) (l:List (List DPassage)):List DDuty:=(l.filter fun x=>decide (0 < x.length)).map fun x=>(zxB c f x).1
def zBp (c:PChart) (f:List DShip) (l:List (List DPassage)):Prop:=∀ x ∈ l,0 < x.length→(zxB c f x).2=true
noncomputable def zBq (w:PCrew) (c:PChart) (f:List DShip) (l:List (List DPassage)):Int:=open Classical in
 if zvn w=true∧zBp c f l∧(pilL c f l).length≤12 then (zA6 w.rest w.moves (pilL c f l)).2.1 else -1
noncomputable def zKk (w:PCrew) (c:PChart) (f:List DShip) (l:List (List DPassage)):Bool:=In (zKh w c f l.flatten) 0 w.tugs && In (zBq w c f l) 0 w.pilots
theorem zBr {c:PChart} {f:List DShip} {l:List DPassage} (hC:zxr c l=true) (hp:∀ i,i < l.length→pOk c f l i=true):∀ k,k < l.length→(l.getD 0 dQ).start < (l.getD k dQ).fin
 | 0,hk=>(zBk (hp 0 hk)).2.2.2.2.1
 | k+1,hk=>by
  have ih:=zBr hC hp k (by omega)
  have h1:=(zBk (hp (k+1) hk)).2.2.2.2.1
  have h2:=of_decide_eq_true (Bool.and_eq_true_iff.1 hC).2 (k+1) hk
  rw [chOk,jJ] at h2
  have h3:=h2.2
  rw [chTo,jQ,decide_eq_true_eq,jJ,decide_eq_true_eq,decide_eq_true_eq] at h3
  simp only [Nat.add_sub_cancel] at h3
  rcases h3 with h3|h3
  ·omega
  ·have:=h3.2;omega
theorem zBs {c:PChart} {f:List DShip} {l:List DPassage} (h:(zxB c f l).2=true):zz1 (zxB c f l).1=true:=by
 rw [zxB] at h ⊢
 split
 ·rename_i hq
  simp only [jJ,decide_eq_true_eq] at hq
  obtain ⟨⟨h0,hC⟩,hp⟩:=hq
  exact zBm (hp 0 h0) (hp (l.length - 1) (by omega)) (zBr hC hp _ (by omega))
 ·rename_i hq;rw [if_neg hq] at h;cases h
theorem zBt {c:PChart} {f:List DShip} {l:List (List DPassage)} (h:zBp c f l) (h12:(pilL c f l).length≤12):zz2 (pilL c f l)=true:=by
 rw [zz2,jJ,decide_eq_true_eq,List.all_eq_true]
 refine ⟨h12,fun x hx=>?_⟩
 obtain ⟨y,hy,rfl⟩:=List.mem_map.1 hx
 have:=List.mem_filter.1 hy
 exact zBs (h y this.1 (of_decide_eq_true this.2))
theorem zBu {c:PChart} {f:List DShip} {l:List (List DPassage)} {x:List DPassage} (h:0 < x.length):pilL c f (l ++ [x])=pilL c f l ++ [(zxB c f x).1]:=by
 rw [pilL,List.filter_append,List.map_append]
 simp [pilL,h]
theorem zBv {c:PChart} {f:List DShip} {l:List (List DPassage)} {x:List DPassage} (h:x.length=0):pilL c f (l ++ [x])=pilL c f l:=by
 rw [pilL,List.filter_append,List.map_append]
 simp [pilL,h]
theorem zBw {c:PChart} {f:List DShip} {l:List (List DPassage)}:(pilL c f l).length≤l.length:=by
 rw [pilL,List.length_map];exact List.length_filter_le _ _
theorem zKl (s:Sl (Sl DPassage)):Con.con s=s.l.map (·.l):=by
 show List.map _ _=_
 exact List.map_congr_left fun x _=>zxH x
theorem zBx {l:List (Sl DPassage)} {k:Nat} (hk:k < l.length):(l.take (k+1)).map (·.l)=(l.take k).map (·.l) ++ [l[k].l]:=by rw [List.take_succ_eq_append_getElem hk,List.map_append];rfl
theorem zBy {c:PChart} {f:List DShip} {l:List (List DPassage)} {x:List DPassage} (h:zBp c f l) (hx:0 < x.length→(zxB c f x).2=true):zBp c f (l ++ [x]):=fun y hy h0=>by
 rcases List.mem_append.1 hy with hy|hy
 ·exact h y hy h0
 ·rw [List.mem_singleton.1 hy] at h0 ⊢;exact hx h0
theorem zBz {c:PChart} {f:List DShip} {w:PCrew} {l:List (List DPassage)} {x:List DPassage} (hx:x ∈ l) (h0:0 < x.length) (h:(zxB c f x).2=false):zBq w c f l=-1:=by
 rw [zBq,if_neg]
 rintro ⟨-,hp,-⟩
 rw [hp x hx h0] at h;cases h
theorem zKm {l:List DPassage} {u:Value} (hu:u ∈ l.flatMap Enc.enc):u.oneCell'=true:=by
 obtain ⟨x,_,hu⟩:=List.mem_flatMap.1 hu
 exact Enc.one x u hu
theorem zKn {a:Sl (Sl DPassage)} {B:Nat} (hz:Sz.sz (Con.con a)≤B):(a.l.flatMap (·.l)).length≤B∧a.l.length≤B:=by
 have key:∀ l:List (Sl DPassage),(l.flatMap (·.l)).length+l.length≤((l.map fun x=>Con.con x).map Sz.sz).sum+(l.map fun x=>Con.con x).length:=fun l=>by
  induction l with
  | nil=>simp
  | cons x l ih =>
   rw [List.flatMap_cons,List.length_append,List.map_cons,List.map_cons,List.sum_cons,List.length_cons,List.length_cons]
   have:x.l.length≤Sz.sz (Con.con x):=by
    rw [zmu];have:(Con.con x).length=x.l.length:=List.length_map ..;omega
   omega
 have h1:=key a.l
 rw [zmu] at hz
 have:Con.con a=a.l.map fun x=>Con.con x:=rfl
 rw [this] at hz
 omega
theorem zBA {c:DChart} {f:List DShip} {l:List (Sl DPassage)} {h:Hp} (hc:Enc.ok h c) (hl:∀ x ∈ l,x.Ok h):∀ d ∈ pilL (Con.con c) f (l.map (·.l)),Enc.ok h d:=fun d hd=>by
 obtain ⟨y,hy,rfl⟩:=List.mem_map.1 hd
 obtain ⟨x,hx,rfl⟩:=List.mem_map.1 (List.mem_filter.1 hy).1
 have:=zxI (f:=f) (h2:=h) hc (hl x hx)
 rwa [zxH] at this
theorem z0C (w:DCrew) (c:DChart) (f:Sl DShip) (a:Sl (Sl DPassage)) (h:Hp) (hw:Enc.ok h w) (hc:Enc.ok h c) (hf:f.Ok h) (ha:a.Ok h) (hz:a.l.length≤1048576):Ct jV 260 [w.v,c.v,f.val,a.val] h fun v h'=>v=.int .i64 (zBq (Con.con w) (Con.con c) f.l (a.l.map (·.l)))∧h'=h:=by
 have hl:=ha.max
 refine Ct.forget ?_
 refine zdn (fun A W=>by simp) Tryz.func260 rfl rfl (by simp) fun W0=>?_
 repeat' first|refine Wa ?_|refine zhF (fun _=>zZe w _ hw) ?_|(simp only [go_sem,jq,jj,jy,jv,jk,jx];try rfl)|refine Wb ?_|fail
 refine zc9 rfl (fun hq=>?_) (fun hq=>?_)
 ·rw [Bool.not_eq_true'] at hq
  rw [zBq,if_neg (fun H=>by rw [hq] at H;cases H.1)]
  exact Wk0
 rw [Bool.not_eq_false'] at hq
 have hC:=hq
 refine Wk ?_
 refine zl0 (ι:=Nat) (fun k=>⟨[(2,true,.c (.v f.val)),(4,true,.c (.p 0 0)),(5,true,.c (.p 1 0)),(8,true,.c (.v (.int .i64 0))),(9,true,.c (.s 2)),(21,true,.c (.v a.val)),(22,true,.c (.v (.int .i64 a.l.length))),(23,true,.c (.v (.int .i64 k)))],[(0,.box 60 [.v (.int .i64 w.tugs),.v (.int .i64 w.pilots),.v (.int .i64 w.rest),.v w.moves.val]),(1,.box 57 [.v c.points.val,.v c.segments.val]),(2,.row 303 4 (pilL (Con.con c) f.l ((a.l.take k).map (·.l))).length ((pilL (Con.con c) f.l ((a.l.take k).map (·.l))).flatMap Enc.enc))],h,3⟩) (fun k=>k≤a.l.length∧zBp (Con.con c) f.l ((a.l.take k).map (·.l))) (fun k=>a.l.length - k) 0 ⟨Nat.zero_le _,fun x hx=>by cases hx⟩ [0,1,2] ?_ ?_
 ·refine Evs ?_
  exact Gk
 intro k hk
 have hpl:=zBw (c:=Con.con c) (f:=f.l) (l:=(a.l.take k).map (·.l))
 rw [List.length_map,List.length_take] at hpl
 refine Wk ?_
 refine zc9 rfl (fun hd=>?_) (fun hd=>?_)
 ·have hlt:=zjH hd
  have hok:=ha.el hlt
  repeat' first|refine Wa ?_|(simp only [go_sem,jq,jj,jy,jv,jk,jx,zku ha hlt,ha.some hlt,hlt,jW];try rfl)|refine Wb ?_|fail
  refine zc9 rfl (fun hx=>?_) (fun hx=>?_)
  ·have hx:a.l[k].l.length=0:=by have:=eq_of_beq hx;omega
   refine Wk ?_
   refine ⟨k+1,[0,1,2],⟨hlt,by rw [zBx hlt];exact zBy hk.2 (fun h0=>by omega)⟩,by omega,?_⟩
   refine Evs ?_
   rw [zBx hlt,zBv hx]
   exact Gi (zjA hlt (by omega))
  have hx:0 < a.l[k].l.length:=by have:=ne_of_beq_false hx;omega
  have hmem:a.l[k].l ∈ a.l.map (·.l):=List.mem_map_of_mem (List.getElem_mem hlt)
  repeat' first|refine Wa ?_|refine zhF (fun _=>zZV c f a.l[k] _ hc hf hok) ?_|(simp only [go_sem,jq,jj,jy,jv,jk,jx];try rfl)|refine Wb ?_|fail
  refine zc9 rfl (fun hy=>?_) (fun hy=>?_)
  ·rw [Bool.not_eq_true'] at hy
   rw [zBz hmem hx hy]
   exact Wk0
  rw [Bool.not_eq_false'] at hy
  refine Wk ?_
  refine ⟨by simp only [maxLen];omega,by omega,?_⟩
  refine Wk ?_
  refine ⟨k+1,[0,1,5],⟨hlt,by rw [zBx hlt];exact zBy hk.2 (fun _=>hy)⟩,by omega,?_⟩
  refine Evs ?_
  rw [zBx hlt,zBu hx,List.flatMap_append,List.length_append]
  exact Gi (zjA hlt (by omega))
 ·have hge:=zjI hd
  have hke:k=a.l.length:=by omega
  have hkp:=hk.2
  rw [hke,List.take_length] at hkp
  have e0:(a.l.take k).map (·.l)=a.l.map (·.l):=by rw [hke,List.take_length]
  rw [e0]
  refine zc6 ?_
  refine Evs ?_
  refine zlE 2 (pilL (Con.con c) f.l (a.l.map (·.l))) rfl rfl rfl rfl (by decide) (zBA hc ha.2.2.2.1) h (Hp.le_refl _) (Mines.flat (fun _=>rfl) (fun _=>trivial)) fun s h' e1 e2 e3 e4=>?_
  have hw1:Enc.ok h' w:=Enc.mono e3 hw
  refine Wk ?_
  refine zkj (z0A w.rest w.moves s _ hw1.2.2.2 e2) rfl ?_
  rintro v h2 le2 ⟨s2,rfl,e5,ok2,m2⟩
  rw [e1]
  by_cases h12:(pilL (Con.con c) f.l (a.l.map (·.l))).length≤12
  ·have hfine:(zA6 w.rest w.moves.l (pilL (Con.con c) f.l (a.l.map (·.l)))).2.2=true:=z0z (by rw [zA5,zBt hkp h12,← zBo,(zBn hC).2,show In w.rest 0 2880=true from (zBn hC).1];rfl)
   rw [hfine]
   refine Wk ?_
   refine zc9 rfl (fun hq=>?_) (fun hq=>?_)
   ·cases hq
   refine Wk ?_
   rw [zBq,if_pos ⟨hC,hkp,h12⟩,zBo];rfl
  ·have hno:zA6 w.rest w.moves.l (pilL (Con.con c) f.l (a.l.map (·.l)))=([],0,false):=zBc (by rw [zA5,zz2,decide_eq_false h12];rfl)
   rw [hno]
   refine Wk ?_
   refine zc9 rfl (fun hq=>?_) (fun hq=>?_)
   case refine_2=>cases hq
   refine Wk ?_
   rw [zBq,if_neg (fun H=>h12 H.2.2)]
theorem z0D (w:DCrew) (c:DChart) (f:Sl DShip) (a:Sl (Sl DPassage)) (h:Hp) (hw:Enc.ok h w) (hc:Enc.ok h c) (hf:f.Ok h) (ha:a.Ok h) (hz:(a.l.flatMap (·.l)).length≤1048576) (hz2:a.l.length≤1048576):Ct jV 207 [w.v,c.v,f.val,a.val] h fun v h'=>v=.bool (zKk (Con.con w) (Con.con c) f.l (a.l.map (·.l)))∧h'=h:=by
 have hl:=ha.max
 refine Ct.forget ?_
 refine zdn (fun A W=>by simp) Tryz.func207 rfl rfl (by simp) fun W0=>?_
 refine Wk ?_
 refine zl0 (ι:=Nat) (fun k=>⟨[(2,true,.c (.v f.val)),(3,true,.c (.v a.val)),(4,true,.c (.p 0 0)),(5,true,.c (.p 1 0)),(8,true,.c (.v (.bool false))),(9,true,.c (.s 2)),(13,true,.c (.v a.val)),(14,true,.c (.v (.int .i64 a.l.length))),(15,true,.c (.v (.int .i64 k)))],[(0,.box 60 [.v (.int .i64 w.tugs),.v (.int .i64 w.pilots),.v (.int .i64 w.rest),.v w.moves.val]),(1,.box 57 [.v c.points.val,.v c.segments.val]),(2,.row 222 5 ((a.l.take k).flatMap (·.l)).length (((a.l.take k).flatMap (·.l)).flatMap Enc.enc))],h,3⟩) (fun k=>k≤a.l.length) (fun k=>a.l.length - k) 0 (Nat.zero_le _) [0,1,2] ?_ ?_
 ·refine Evs ?_
  exact Gk
 intro k hk
 refine Wk ?_
 refine zc9 rfl (fun hd=>?_) (fun hd=>?_)
 ·have hlt:=zjH hd
  have hok:=ha.el hlt
  have hall:h.ldL a.l[k].val 5=some (a.l[k].l.flatMap Enc.enc):=Sl.Ok.all hok (by decide)
  have hfl:(a.l.take (k+1)).flatMap (·.l)=(a.l.take k).flatMap (·.l) ++ a.l[k].l:=by rw [List.take_succ_eq_append_getElem hlt,List.flatMap_append];simp
  have hle:((a.l.take (k+1)).flatMap (·.l)).length≤(a.l.flatMap (·.l)).length:=by
   rw [← List.take_append_drop (k+1) a.l,List.flatMap_append,List.take_append_drop,List.length_append];omega
  rw [hfl,List.length_append] at hle
  repeat' first|refine Wa ?_|(simp only [go_sem,jq,jj,jy,jv,jk,jx,zku ha hlt,ha.some hlt,hlt,jW];try rfl)|refine Wb ?_|fail
  simp only [hall,Option.isSome_some,Option.getD_some,← hfl,← List.flatMap_append,← List.length_append]
  refine ⟨trivial,fun u hu=>zKm hu,by simp only [maxLen];rw [hfl,List.length_append];omega,by rw [hfl,List.length_append];omega,?_⟩
  refine Wk ?_
  refine ⟨k+1,[0,1,3],hlt,by omega,?_⟩
  refine Evs ?_
  exact Gi (zjA hlt (by omega))
 ·have hge:=zjI hd
  have hke:k=a.l.length:=by omega
  have e0:(a.l.take k).flatMap (·.l)=a.l.flatMap (·.l):=by rw [hke,List.take_length]
  have ef:(a.l.map (·.l)).flatten=a.l.flatMap (·.l):=by rw [List.flatMap_def]
  rw [e0]
  refine zc6 ?_
  refine Evs ?_
  refine zlE 2 (a.l.flatMap (·.l)) rfl rfl rfl rfl (by decide) (fun x hx=>?_) h (Hp.le_refl _) (Mines.flat (fun _=>rfl) (fun _=>trivial)) fun s h' e1 e2 e3 e4=>?_
  ·obtain ⟨y,hy,hx⟩:=List.mem_flatMap.1 hx
   exact (ha.2.2.2.1 y hy).2.2.2.1 x hx
  have hw1:Enc.ok h' w:=Enc.mono e3 hw
  have hc1:Enc.ok h' c:=Enc.mono e3 hc
  have hf1:=hf.mono e3
  have ha1:=ha.mono e3
  refine Wk ?_
  refine znv rfl ?_
  refine U_t [0,1,2,3,5,6] rfl ?_
  refine Evs ?_
  refine U_1 4 0 [6,5] rfl rfl ?_
  refine Evs ?_
  refine zhF (fun _=>z0B w c f s _ hw1 hc1 hf1 e2) ?_
  refine Evs ?_
  refine U_1 7 0 [] rfl rfl ?_
  refine Evs ?_
  refine zhF (fun _=>zYZ _ _ _ _) ?_
  refine Evs ?_
  refine U_t [8,9,10,11,12,14,15] rfl ?_
  refine Evs ?_
  refine U_1 13 0 [15,14] rfl rfl ?_
  refine Evs ?_
  refine zhF (fun _=>z0C w c f a _ hw1 hc1 hf1 ha1 hz2) ?_
  refine Evs ?_
  refine U_1 16 0 [] rfl rfl ?_
  refine Evs ?_
  refine zhF (fun _=>zYZ _ _ _ _) ?_
  refine Evs ?_
  refine U_t [17,18] rfl ?_
  refine Evs ?_
  refine U_d ?_
  refine Wk ?_
  rw [zKk,e1,ef]
  rfl
theorem z0E (w:DCrew) (c:DChart) (f:Sl DShip) (a:Sl (Sl DPassage)) (h:Hp) (hw:Enc.ok h w) (hc:Enc.ok h c) (hf:f.Ok h) (ha:a.Ok h) (hz:Sz.sz (Con.con a)≤1048576):Ct jV 207 [w.v,c.v,f.val,a.val] h fun v h'=>v=.bool (zKk (Con.con w) (Con.con c) (Con.con f) (Con.con a))∧h'=h:=by
 have hz2:=zKn hz
 rw [zu4,zKl];exact z0D w c f a h hw hc hf ha hz2.1 hz2.2
def zBC (c:PChart) (f:List DShip) (l:List DPassage):Prop:=0 < l.length∧zxr c l=true∧∀ i,i < l.length→pOk c f l i=true
theorem zBD {l:List Int} {x:Int} {i:Nat} (hi:i < l.length):(l ++ [x]).getD i 0=l.getD i 0:=by rw [List.getD_eq_getElem?_getD,List.getElem?_append_left hi,← List.getD_eq_getElem?_getD]
theorem zBE {l:List Int} {x:Int} {k:Nat} (h:l.length=k):(l ++ [x]).getD k 0=x:=by subst h;simp only [List.getD_eq_getElem?_getD,List.getElem?_concat_length,Option.getD_some]
theorem zBF {w:List Bool} {m:List Int} {u:List (List DWindow)} {st:Int}:∀ {k:Nat} {l:List Int},slK w m u st k=some l→∀ i,i < k→IntKind.i64.wrap (l.getD i 0+m.getD i 0)≤l.getD (i+1) 0
 | 0,_,_,i,hi=>absurd hi (Nat.not_lt_zero i)
 | k+1,l,h,i,hi=>by
  rw [slK] at h
  obtain ⟨p,hp,h⟩:=Option.bind_eq_some_iff.1 h
  have hl:=zyw hp
  unfold zyr at h
  dsimp only at h
  split at h
  ·cases h
  ·rename_i hc
   rw [not_or] at hc
   have e:=Option.some.inj h
   rw [← e]
   rcases Nat.lt_or_ge i k with hik|hik
   ·rw [zBD (by omega),zBD (by omega)]
    exact zBF hp i hik
   ·obtain rfl:i=k:=by omega
    rw [zBD (by omega),zBE hl]
    exact zyp (by omega)
theorem zBG {g:List DSegment} {a:Int} {r:List Int}:∀ {k:Nat} {l:List Int},ptsK g a r k=some l→∀ i,i < k→l.getD (i+1) 0=zwS (g.getD (r.getD i 0).toNat dG) (l.getD i 0)∧0≤zwS (g.getD (r.getD i 0).toNat dG) (l.getD i 0)
 | 0,_,_,i,hi=>absurd hi (Nat.not_lt_zero i)
 | k+1,l,h,i,hi=>by
  obtain ⟨p,hp,hs⟩:=zw3 h
  have hl:=zw4 hp
  obtain ⟨_,h2,_,e⟩:=zw1 hs
  rw [zw7 hl] at h2 e
  rw [e]
  rcases Nat.lt_or_ge i k with hik|hik
  ·rw [zBD (by omega),zBD (by omega)]
   exact zBG hp i hik
  ·obtain rfl:i=k:=by omega
   rw [zBE hl,zBD (by omega)]
   exact ⟨rfl,h2⟩
theorem zBH {s:DSegment} {p:Int} (h:0≤zwS s p):(p=s.a∧zwS s p=s.b)∨(p ≠ s.a∧p=s.b∧zwS s p=s.a):=by
 unfold zwS at h ⊢
 split at h
 ·rename_i h1;exact .inl ⟨h1,by rw [if_pos h1]⟩
 ·rename_i h1
  split at h
  ·rename_i h2;exact .inr ⟨h1,h2,by rw [if_neg h1,if_pos h2]⟩
  ·exact absurd h (by decide)
theorem zBI {c:PChart} {ship:Int} {s:DShip} {pts r st:List Int} {k i:Nat} (hi:i < k):(pasL c ship s pts r st k).getD i dQ=zxL c ship s pts r st i:=by
 rw [pasL,List.getD_eq_getElem?_getD,List.getElem?_map,List.getElem?_range hi];rfl
theorem zBJ {x:DHarbour} {a:DCall} {r:List Int} (hok:zvB (Con.con x) a=true) (hcv:cvOk (Con.con x) a r=true) {st:Int} (hst:a.ready≤st∧st≤a.due) (h2:(zyJ (Con.con x) a r st).2=true):zBC (Con.con x.chart) x.fleet.l (zyJ (Con.con x) a r st).1.pas:=by
 obtain ⟨_,hC,⟨hsi,hsh,hso⟩,hs0,hs1,_,_,_,_,_,hr0,hr1,hr2,hr3⟩:=zyE hok
 have hFl:zvk x.fleet.l=true:=by
  rw [zvB,zvo,jJ,jJ,jJ,jJ,jJ,show (Con.con x).fleet=x.fleet.l from zu4 _] at hok
  exact hok.1.1.1.2
 have hv:voOk (Con.con x.forecast) (Con.con x.chart) (zyD (Con.con x) a) a.src r=true:=by
  rw [cvOk,jJ] at hcv;exact hcv.2
 have hR:zxf (Con.con x.chart) a.src r=true:=by
  rw [zyF hok,jJ] at hv;exact hv.1
 have hlen0:0 < r.length:=by
  rw [zyF hok,jJ,decide_eq_true_eq] at hv;exact hv.2
 obtain ⟨_,hin,pl,hptl,hpk,hplen,hpx⟩:=zxi hR
 have hrl:r.length≤8:=by have:=zxZ hC (zw5 hpk) hpx;omega
 have hrg:∀ i,i < r.length→0≤r.getD i 0∧r.getD i 0 < (Con.con x.chart).segments.length:=fun i hi=>by
  rw [iget hi];exact zxj hpk (Nat.le_refl _) i hi hi
 have hmi:∀ i,i < (minL (Con.con x.chart) (zyD (Con.con x) a) r r.length).length→1≤(minL (Con.con x.chart) (zyD (Con.con x) a) r r.length).getD i 0∧(minL (Con.con x.chart) (zyD (Con.con x) a) r r.length).getD i 0≤480:=fun i hi=>by
  rw [minL,rmap_len] at hi
  rw [zzr hi]
  exact zzj (zzk hC (by have:=hrg i hi;omega))
 have hml:(minL (Con.con x.chart) (zyD (Con.con x) a) r r.length).length=r.length:=by rw [minL,rmap_len]
 unfold zyJ at h2 ⊢
 rw [show (Con.con x).forecast=Con.con x.forecast from rfl,show (Con.con x).chart=Con.con x.chart from rfl] at h2 ⊢
 cases hs:zyB (Con.con x.forecast) (Con.con x.chart) (zyD (Con.con x) a) a.src r st with
 | none=>rw [hs] at h2;cases h2
 | some l =>
  rw [hs] at h2
  dsimp only at h2 ⊢
  have h3:=hs
  rw [zyB,if_pos hv,zys] at h3
  split at h3
  ·rw [show (zym (Con.con x.forecast) (Con.con x.chart) (zyD (Con.con x) a) r r.length).length=r.length by rw [zym,rmap_len]] at h3
   obtain ⟨h4,h5,h6⟩:=zzo (by omega) hmi (by omega) h3
   have hpo:arOk (Con.con x.chart) (zyD (Con.con x) a) r l=true:=by
    rw [arOk,jJ,jJ,jJ,Bool.not_eq_true',decide_eq_false_iff_not,decide_eq_true_eq,decide_eq_true_eq,hsh]
    refine ⟨⟨⟨?_,hso⟩,hlen0⟩,by omega⟩
    rw [zxn,if_pos ⟨hC,fun i hi=>by
     rw [rmOk,decide_eq_true_eq];exact hrg i hi⟩]
    have:=zzs hC (fun i hi=>zxj hpk (Nat.le_refl _) i hi hi) hrl (k:=r.length) (Nat.le_refl _)
    rw [List.take_length] at this
    omega
   have hA:zxJ (Con.con x.chart) (zyD (Con.con x) a) r l=IntKind.i64.wrap (l.getD (r.length - 1) 0+zvG (zyD (Con.con x) a) ((Con.con x.chart).segments.getD (r.getD (r.length - 1) 0).toNat dG)):=by
    have h7:=h5 (r.length - 1) (Nat.le_refl _)
    rw [zxJ,if_pos hpo,if_pos (by rw [In,jJ,decide_eq_true_eq,decide_eq_true_eq];exact h7)]
   have hle:zxJ (Con.con x.chart) (zyD (Con.con x) a) r l≤2880:=of_decide_eq_true h2
   have hstep:∀ i,i+1 < r.length→IntKind.i64.wrap (l.getD i 0+zvG (zyD (Con.con x) a) ((Con.con x.chart).segments.getD (r.getD i 0).toNat dG))≤l.getD (i+1) 0:=fun i hi=>by
    have:=zBF h3 i (by omega)
    rwa [zzr (by omega)] at this
   have hfin:∀ i,i < r.length→IntKind.i64.wrap (l.getD i 0+zvG (zyD (Con.con x) a) ((Con.con x.chart).segments.getD (r.getD i 0).toNat dG))≤2880:=fun i hi=>by
    rcases Nat.lt_or_ge (i+1) r.length with h8|h8
    ·have:=hstep i h8
     have:=h5 (i+1) (by omega)
     omega
    ·obtain rfl:i=r.length - 1:=by omega
     rw [hA] at hle;exact hle
   show zBC _ _ (zxN (Con.con x.chart) a.ship (zyD (Con.con x) a) a.src r l)
   have hP:zxN (Con.con x.chart) a.ship (zyD (Con.con x) a) a.src r l=pasL (Con.con x.chart) a.ship (zyD (Con.con x) a) pl r l r.length:=by
    rw [zxN,if_pos,hptl]
    ·rfl
    ·refine ⟨?_,fun i hi=>?_⟩
     ·rw [zxM,jJ,jJ,decide_eq_true_eq,hsh]
      exact ⟨⟨hR,hso⟩,by omega⟩
     ·rw [In,jJ,decide_eq_true_eq,decide_eq_true_eq];exact h5 i (by omega)
   rw [hP]
   refine ⟨by rw [zxQ];exact hlen0,?_,fun i hi=>?_⟩
   ·rw [zxr,jJ,decide_eq_true_eq]
    refine ⟨hC,fun i hi=>?_⟩
    rw [zxQ] at hi
    rw [chOk,chIn,chTo,zBI hi,zBI hlen0,zBI (show i - 1 < r.length by omega)]
    simp only [jJ,jQ,decide_eq_true_eq]
    refine ⟨⟨rfl,hrg i hi⟩,?_⟩
    rcases Nat.eq_zero_or_pos i with h0|h0
    ·exact .inl h0
    ·refine .inr ⟨?_,?_⟩
     ·have e1:=zBG hpk i hi
      have e2:=zBG hpk (i - 1) (by omega)
      rw [show i - 1+1=i by omega] at e2
      have f1:=zBH e1.2
      have f2:=zBH e2.2
      show (if (pl.getD i 0 == ((Con.con x.chart).segments.getD (r.getD i 0).toNat dG).a)=true then _ else _:Int × Int).1=(if (pl.getD (i - 1) 0 == ((Con.con x.chart).segments.getD (r.getD (i - 1) 0).toNat dG).a)=true then _ else _:Int × Int).2
      have g1:(zvF (Con.con x.chart) (zxL (Con.con x.chart) a.ship (zyD (Con.con x) a) pl r l i)).1=pl.getD i 0:=by
       unfold zvF zxL
       dsimp only
       rcases f1 with f1|f1
       ·rw [if_pos (by rw [beq_iff_eq];exact f1.1)];exact f1.1.symm
       ·rw [if_neg (by rw [beq_iff_eq];exact f1.1)];exact f1.2.1.symm
      have g2:(zvF (Con.con x.chart) (zxL (Con.con x.chart) a.ship (zyD (Con.con x) a) pl r l (i - 1))).2=pl.getD i 0:=by
       unfold zvF zxL
       dsimp only
       rcases f2 with f2|f2
       ·rw [if_pos (by rw [beq_iff_eq];exact f2.1)];rw [e2.1,f2.2]
       ·rw [if_neg (by rw [beq_iff_eq];exact f2.1)];rw [e2.1,f2.2.2]
      exact g1.trans g2.symm
     ·have:=hstep (i - 1) (by omega)
      rw [show i - 1+1=i by omega] at this
      exact this
   ·rw [zxQ] at hi
    rw [pOk,zBI hi,zvI,hC,hFl,Bool.true_and,Bool.true_and,zvH,jJ,decide_eq_true_eq,decide_eq_true_eq]
    refine ⟨⟨hs0,hs1,(hrg i hi).1,(hrg i hi).2,(h5 i (by omega)).1,(h5 i (by omega)).2,hfin i hi⟩,?_⟩
    show IntKind.i64.wrap (_+zvG (zyD (Con.con x) a) _)=IntKind.i64.wrap (_+zvG (x.fleet.l.getD a.ship.toNat dH) _)
    rw [hsh,hget hsi]
    rfl
  ·cases h3
theorem zBK {x:DHarbour} {a:DCall}:∀ y ∈ zy1 (Con.con x) a,zBC (Con.con x.chart) x.fleet.l y.pas:=by
 cases hok:zvB (Con.con x) a with
 | false=>rw [zy5 hok];intro y hy;cases hy
 | true =>
  rw [zy1,if_pos hok]
  obtain ⟨_,_,_,_,_,_,_,_,_,_,hr0,hr1,hr2,hr3⟩:=zyE hok
  cases hb:zyd (Con.con x).chart a.src a.dst with
  | none=>intro y hy;cases hy
  | some r =>
   dsimp only
   exact zzq hr0 hr3 (fun s h1 h2 h3=>zBJ hok (zy4 hok hb) ⟨h1,h2⟩ h3) (Int.le_refl _) (fun y hy=>by cases hy)
def Sel (n:Nat) (l:List Int):Prop:=∀ i,i < l.length→0≤l.getD i 0∧l.getD i 0 < n∧(0 < i→l.getD (i - 1) 0 < l.getD i 0)
instance (n:Nat) (l:List Int):Decidable (Sel n l):=inferInstanceAs (Decidable (∀ i,i < l.length→_))
def zKE (l:List POption):List (List DPassage):=l.map (·.pas)
theorem zKF (a:Sl DOption):zKE (Con.con a)=a.l.map (fun o=>o.pas.l):=by
 rw [zKE,zkq,List.map_map]
 exact List.map_congr_left fun o _=>zup o.pas
theorem zKG (s:Sl (Sl DPassage)):Con.con s=s.l.map (·.l):=List.map_congr_left fun x _=>zup x
theorem z0F (a:Sl DOption) (h:Hp) (ha:a.Ok h) (hz:Sz.sz (Con.con a)≤1048576):Ct jV 208 [a.val] h fun v h'=>∃ s:Sl (Sl DPassage),v=s.val∧Con.con s=zKE (Con.con a)∧s.Ok h'∧Mine h h' s:=by
 have hl:=ha.max
 have hz1:=zmv hz
 rw [zmw] at hz1
 have hzp:∀ k (hk:k < a.l.length),a.l[k].pas.l.length≤1048576:=fun k hk=>by
  have h1:Sz.sz (Con.con a.l[k])≤1048576:=zFe hz (by rw [zkq];exact List.mem_map_of_mem (List.getElem_mem hk))
  have h2:Sz.sz (Con.con a.l[k])=Sz.sz (Con.con a.l[k].pas):=rfl
  rw [h2] at h1
  have:=zmv h1
  rwa [zmw] at this
 rw [zKF]
 refine zdn (fun A W=>by simp) Tryz.func208 rfl rfl (by simp) fun W0=>?_
 refine Wk ?_
 refine zl0 (ι:=Nat × List (Sl DPassage) × Hp) (fun i=>⟨[(3,true,.c (.s 0)),(7,true,.c (.v a.val)),(8,true,.c (.v (.int .i64 a.l.length))),(9,true,.c (.v (.int .i64 i.1)))],[(0,.row 82 1 i.1 (i.2.1.flatMap Enc.enc))],i.2.2,1⟩) (fun i=>i.1≤a.l.length∧i.2.1.length=i.1∧i.2.1.map (·.l)=(a.l.take i.1).map (fun o=>o.pas.l)∧(∀ d ∈ i.2.1,Enc.ok i.2.2 d)∧h.le i.2.2∧Mines h i.2.2 i.2.1) (fun i=>a.l.length - i.1) (0,[],h) ⟨Nat.zero_le _,rfl,rfl,fun _ h=>(by cases h),Hp.le_refl _,Mines.nil⟩ [0] ?_ ?_
 ·refine Evs ?_
  exact Gk
 rintro ⟨k,ds,hk⟩ ⟨hi,hn,hm,ho,hle,hmi⟩
 simp only at hi hn hm ho hle hmi
 have ha':=ha.mono hle
 refine Wk ?_
 refine zc9 rfl (fun hd=>?_) (fun hd=>?_)
 ·have hlt:=zjH hd
  have hp:=(ha'.el hlt).2.2.2
  have hall:=hp.all (by decide)
  have hall:hk.ldL a.l[k].pas.val 5=some (a.l[k].pas.l.flatMap Enc.enc):=hall
  refine zc5 ?_
  refine Evs ?_
  refine zc3 ?_
  refine zc8 ?_
  refine zie rfl ?_
  simp only [go_sem,jq,jj,jy,jv,jk,jx,zkC ha' hlt,ha'.some hlt,hlt,jW]
  refine zlq [0,0,0,0,2] rfl ?_
  simp only [go_sem,jq,jj,jy,jv,jk,jx,hall,Option.isSome_some,Option.getD_some]
  have hzk:=hzp k hlt
  refine ⟨fun u hu=>by obtain ⟨x,_,hx⟩:=List.mem_flatMap.1 hu;exact Enc.one x u hx,by simp only [maxLen];omega,by omega,?_⟩
  intro ad cap h1 hpub
  rw [Nat.zero_add] at hpub ⊢
  have e2:(Sl.mk ad cap a.l[k].pas.l).Ok h1:=hpub.sl (by decide) (fun x hx=>hp.2.2.2.1 x hx)
  have e3:Mine hk h1 (Sl.mk ad cap a.l[k].pas.l):=hpub.mine (Hp.le_refl _) (fun x hx=>hp.2.2.2.1 x hx) (Mines.flat (fun _=>rfl) (fun _=>trivial))
  have hle1:=hpub.le
  obtain ⟨d,hd'⟩:∃ d:Sl DPassage,d=Sl.mk ad cap a.l[k].pas.l:=⟨_,rfl⟩
  have e1:d.l=a.l[k].pas.l:=by rw [hd']
  rw [← hd'] at e2 e3
  have hv:Value.slice ad a.l[k].pas.l.length cap=d.val:=by rw [hd'];rfl
  rw [hv]
  refine ⟨by simp only [maxLen];omega,by omega,?_⟩
  refine Wk ?_
  refine ⟨(k+1,ds ++ [d],h1),[5],⟨hlt,by simp [hn],by rw [List.map_append,hm,zFd hlt,← e1];rfl,fun x hx=>?_,Hp.le_trans hle hle1,hmi.snoc ho hle1 hle e3⟩,by simp only;omega,?_⟩
  ·rcases List.mem_append.1 hx with hx|hx
   ·exact Enc.mono hle1 (ho x hx)
   ·rw [List.mem_singleton.1 hx];exact e2
  refine Evs ?_
  refine ⟨zjB (zjA hlt (by omega)),?_,Hp.le_trans hle hle1,rfl⟩
  rw [List.flatMap_append]
  rfl
 ·have hge:=zjI hd
  have hke:k=a.l.length:=Nat.le_antisymm hi hge
  refine zc6 ?_
  refine Evs ?_
  refine zlE 0 ds rfl rfl hn.symm rfl (by decide) ho h hle hmi fun s h' e1 e2 e3 e4=>?_
  refine Wk ?_
  exact ⟨s,rfl,by rw [zKG,e1,hm,hke,List.take_length],e2,e4⟩
theorem zKI (a:List POption) (hz:Sz.sz a≤1048576):Sz.sz (zKE a)≤1048576:=by
 have:Sz.sz (zKE a)=Sz.sz a:=by
  rw [zKE,zmu,zmu,List.length_map,List.map_map]
  rfl
 rw [this];exact hz
def zBL (n:Nat) (m:List Int):Prop:=m.length=n∧(∀ i (hi:i < m.length),0≤m[i]∧m[i] < m.length)∧∀ i (hi:i < m.length),m.getD m[i].toNat 0=(i:Int)
noncomputable instance (n:Nat) (m:List Int):Decidable (zBL n m):=Classical.propDecidable _
def flr (l:List POption):Int:=if zuC l < 0 then -1 else (l.getD (zuC l).toNat zJX).cost
def zKs (x:PHarbour) (calls:List DCall):List (List POption):=calls.map (zy1 x)
theorem z0G (x:DHarbour) (a:Sl DCall) (h:Hp) (hx:Enc.ok h x) (ha:a.Ok h) (hz:a.l.length≤1048576):Ct jV 106 [x.v,a.val] h fun v h'=>∃ s:Sl (Sl DOption),v=s.val∧s.l.map (fun l=>l.l.map (Con.con (α:=DOption)))=zKs (Con.con x) a.l∧s.Ok h'∧Mine h h' s:=by
 have hl:=ha.max
 refine zdn (fun A W=>by simp) Tryz.func106 rfl rfl (by simp) fun W0=>?_
 refine Wk ?_
 refine zl0 (ι:=Nat × List (Sl DOption) × Hp) (fun i=>⟨[(2,true,.c (.p 0 0)),(4,true,.c (.v (.slice none 0 0))),(5,true,.c (.s 1)),(9,true,.c (.v a.val)),(10,true,.c (.v (.int .i64 a.l.length))),(11,true,.c (.v (.int .i64 i.1)))],[(0,.box 62 [.v (.int .i64 x.forecast.tide.mean),.v x.forecast.tide.parts.val,.v x.forecast.surges.val,.v x.chart.points.val,.v x.chart.segments.val,.v x.fleet.val,.v (.int .i64 x.regime.gap),.v (.bool x.regime.noMeet),.v (.int .i64 x.crew.tugs),.v (.int .i64 x.crew.pilots),.v (.int .i64 x.crew.rest),.v x.crew.moves.val]),(1,.row 93 1 i.2.1.length (i.2.1.flatMap Enc.enc))],i.2.2,2⟩) (fun i=>i.1≤a.l.length∧i.2.1.length=i.1∧i.2.1.map (fun l=>l.l.map (Con.con (α:=DOption)))=(a.l.take i.1).map (zy1 (Con.con x))∧(∀ y ∈ i.2.1,Enc.ok i.2.2 y)∧Mines h i.2.2 i.2.1∧h.le i.2.2) (fun i=>a.l.length - i.1) (0,[],h) ⟨Nat.zero_le _,rfl,rfl,fun y hy=>(by cases hy),Mines.nil,Hp.le_refl _⟩ [0,1] ?_ ?_
 ·refine Evs ?_
  exact Gk
 rintro ⟨k,acc,hk⟩ ⟨hkl,hal,hac,hacok,hacm,hle⟩
 simp only at hkl hal hac hacok hacm hle
 have hak:=ha.mono hle
 have hxk:Enc.ok hk x:=Enc.mono hle hx
 refine Wk ?_
 refine zc9 rfl (fun hd=>?_) (fun hd=>?_)
 ·have hlt:=zjH hd
  repeat' first|refine Wa ?_|(simp only [go_sem,jq,jj,jy,jv,jk,jx,zE7 hak hlt,hak.some hlt,hlt,jW];try rfl)|refine Wb ?_|fail
  refine zkj (z0g x a.l[k] _ hxk (hak.el hlt)) rfl ?_
  rintro v h2 le2 ⟨s,rfl,es,oks,ms⟩
  refine Wk ?_
  refine ⟨by simp only [maxLen];omega,by omega,?_⟩
  refine Wk ?_
  have hle2:=Hp.le_trans hle le2
  have hw:IntKind.i64.wrap ((k:Int)+1)=((k+1:Nat):Int):=zjA hlt (by omega)
  refine ⟨(k+1,acc ++ [s],h2),[0,4],⟨hlt,?_,?_,fun y hy=>?_,Mines.snoc hacm hacok le2 hle ms,hle2⟩,by simp only;omega,?_⟩
  ·show (acc ++ [s]).length=k+1
   rw [List.length_append,hal];rfl
  ·show (acc ++ [s]).map _=(a.l.take (k+1)).map _
   rw [List.map_append,hac,List.take_succ_eq_append_getElem hlt,List.map_append]
   congr 1
   exact congrArg (fun z=>[z]) es
  ·rcases List.mem_append.1 hy with hy|hy
   ·exact Enc.mono le2 (hacok y hy)
   ·rw [List.mem_singleton.1 hy];exact oks
  refine Evs ?_
  rw [hw]
  simp only [List.flatMap_append,List.length_append]
  exact Gk
 ·have hge:=zjI hd
  refine zc6 ?_
  refine Evs ?_
  refine zlE 1 acc rfl rfl rfl rfl (by decide) hacok h hle hacm fun q h' e2 e3 e4 e5=>?_
  refine Wk ?_
  refine ⟨q,rfl,?_,e3,e5⟩
  rw [e2,hac,List.take_of_length_le hge];rfl
theorem zKu {x:PHarbour} {l:List DCall}:(zKs x l).length=l.length:=List.length_map ..
theorem zKv {x:PHarbour} {l:List DCall} (h:zJJ x l=true):l.length≤6:=by
 simp only [zJJ,jJ,decide_eq_true_eq] at h
 exact h.1.2
theorem zCa {P:Nat→Prop} (h:∃ n,P n):∃ n,P n∧∀ m,P m→n≤m:=by
 classical
 obtain ⟨n,hn⟩:=h
 induction n using Nat.strongRecOn with
 | _ n ih =>
  by_cases hc:∃ m,m < n∧P m
  ·obtain ⟨m,hm,hp⟩:=hc;exact ih m hm hp
  ·exact ⟨n,hn,fun m hm=>Nat.le_of_not_lt fun hlt=>hc ⟨m,hlt,hm⟩⟩
theorem zCb {both:Nat→Nat→Bool} {n:Nat}:∃ w k,zA4 both n=some (w,k)∧CovOn both (fun i=>i < n) k∧(∀ j,CovOn both (fun i=>i < n) j→k≤j)∧k≤n:=by
 obtain ⟨k,h1,h2⟩:=zCa (P:=fun k=>CovOn both (fun i=>i < n) k) ⟨n,CovOn.id fun i hi=>hi⟩
 obtain ⟨w,hw⟩:=Option.isSome_iff_exists.1 (zA7.2 h1)
 have hm:k≤n:=h2 n (CovOn.id fun i hi=>hi)
 refine ⟨w,k,zA8 (fun j hj=>?_) hw hm,h1,h2,hm⟩
 cases hh:znR both j n [] with
 | none=>rfl
 | some w' =>
  have:=h2 j (zA7.1 (by rw [hh];rfl))
  omega
theorem zCc {p:Int} {m:List Int} {l:List DDuty} (h:zA5 p m l=true):0≤(zA6 p m l).2.1∧(zA6 p m l).2.1≤l.length∧∀ k:Int,(zA6 p m l).2.1≤k ↔ 0≤k∧CovOn (zA3 p m l) (fun i=>i < l.length) k.toNat:=by
 obtain ⟨w,n,h1,h2,h3,h4⟩:=zCb (both:=zA3 p m l) (n:=l.length)
 rw [zBd h h1]
 refine ⟨jY _,by simp only;omega,fun k=>⟨fun hk=>?_,fun hk=>?_⟩⟩
 ·simp only at hk
  exact ⟨by omega,h2.mono (by omega)⟩
 ·have:=h3 _ hk.2
  simp only;omega
def zKT (p:Int) (m:List Int) (l:List DDuty) (k:Int):Bool:=decide ((l.length:Int)≤k) || decide ((zA6 p m l).2.1≤k)
theorem zKU {p:Int} {m:List Int} {l:List DDuty} {k:Int} (h:zA5 p m l=true):zKT p m l k=In (zA6 p m l).2.1 0 k:=by
 obtain ⟨h1,h2,_⟩:=zCc h
 rw [zKT,In,Bool.eq_iff_iff]
 simp only [jQ,jJ,decide_eq_true_eq]
 omega
theorem zKV {l l2:List DDuty} (h:zz2 (l ++ l2)=true):zz2 l=true:=by
 rw [zz2,jJ,decide_eq_true_eq,List.all_eq_true] at h ⊢
 rw [List.length_append] at h
 exact ⟨by omega,fun x hx=>h.2 x (List.mem_append_left _ hx)⟩
theorem zKW {p:Int} {m:List Int} {l l2:List DDuty} {k:Int} (hp:In p 0 2880=true) (hm:zvm m=true) (hd:zz2 (l ++ l2)=true) (h:zKT p m (l ++ l2) k=true):zKT p m l k=true:=by
 have c1:zA5 p m (l ++ l2)=true:=by rw [zA5,hd,hp,hm];rfl
 have c2:zA5 p m l=true:=by rw [zA5,zKV hd,hp,hm];rfl
 rw [zKU c1,In,jJ,decide_eq_true_eq,decide_eq_true_eq] at h
 obtain ⟨a1,a2,a3⟩:=zCc c1
 obtain ⟨b1,b2,b3⟩:=zCc c2
 obtain ⟨h0,g,g1,g2⟩:=(a3 k).1 h.2
 rw [zKU c2,In,jJ,decide_eq_true_eq,decide_eq_true_eq]
 refine ⟨b1,(b3 k).2 ⟨h0,g,fun i hi=>g1 i (by rw [List.length_append];omega),fun i j hi hj hji he=>?_⟩⟩
 have:=g2 i j (by rw [List.length_append];omega) (by rw [List.length_append];omega) hji he
 rw [zA3] at this ⊢
 rw [List.getD_eq_getElem?_getD,List.getD_eq_getElem?_getD,List.getElem?_append_left hi,List.getElem?_append_left hj] at this
 rw [List.getD_eq_getElem?_getD,List.getD_eq_getElem?_getD];exact this
def pilD (c:PChart) (l:List POption):List DDuty:=(l.filter fun o=>decide (0 < o.pas.length)).map fun o=>zxA c (o.pas.getD 0 dQ) (o.pas.getD (o.pas.length - 1) dQ)
def zKX (x:PHarbour) (l:List POption):Bool:=match zJ4 x.chart x.fleet (l.flatMap (·.pas)) with
 | none=>false
 | some d=>zKT 0 x.crew.moves d x.crew.tugs && zKT x.crew.rest x.crew.moves (pilD x.chart l) x.crew.pilots
theorem zCd {c:PChart} {f:List DShip}:∀ {l:List POption},(∀ o ∈ l,zBC c f o.pas)→pilL c f (l.map (·.pas))=pilD c l
 | [],_=>rfl
 | o :: l,h=>by
  obtain ⟨h1,h2,h3⟩:=h o (List.mem_cons_self ..)
  have ih:=zCd (l:=l) fun y hy=>h y (List.mem_cons_of_mem _ hy)
  rw [pilL,pilD] at ih ⊢
  rw [List.map_cons,List.filter_cons_of_pos (by simpa using h1),List.filter_cons_of_pos (by simpa using h1),List.map_cons,List.map_cons,ih,zxD h1 h2 h3]
theorem zCe {c:PChart} {f:List DShip} {l:List POption} (h:∀ o ∈ l,zBC c f o.pas):zBp c f (l.map (·.pas)):=fun x hx _=>by
 obtain ⟨o,ho,rfl⟩:=List.mem_map.1 hx
 obtain ⟨h1,h2,h3⟩:=h o ho
 rw [zxD h1 h2 h3]
theorem zCf {c:PChart} {l:List POption}:(pilD c l).length≤l.length:=by
 rw [pilD,List.length_map];exact List.length_filter_le _ _
theorem zCg {c:PChart} {f:List DShip} {l:List POption} (h:∀ o ∈ l,zBC c f o.pas) (h12:l.length≤12):zz2 (pilD c l)=true:=by
 rw [← zCd h]
 refine zBt (zCe h) ?_
 rw [zCd h]
 exact Nat.le_trans zCf h12
theorem zKY {x:PHarbour} {l:List POption} (hw:zvn x.crew=true) (h:∀ o ∈ l,zBC x.chart x.fleet o.pas) (h12:l.length≤12):zKk x.crew x.chart x.fleet (l.map (·.pas))=zKX x l:=by
 obtain ⟨hr,ht⟩:=zBn hw
 have hfl:(l.map (·.pas)).flatten=l.flatMap (·.pas):=(List.flatMap_def ..).symm
 have hd:=zCg h h12
 have hc2:zA5 x.crew.rest x.crew.moves (pilD x.chart l)=true:=by rw [zA5,hd,hr,ht];rfl
 rw [zKk,zKX,hfl,zKh]
 cases hq:zJ4 x.chart x.fleet (l.flatMap (·.pas)) with
 | none=>simp [In]
 | some d =>
  have hc1:zA5 0 x.crew.moves d=true:=by rw [zA5,zKg hq,ht];rfl
  simp only
  rw [if_pos hw,zKU hc1,zKU hc2,zBq,if_pos ⟨hw,zCe h,by rw [zCd h];exact Nat.le_trans zCf h12⟩,zCd h]
theorem zKZ {x:PHarbour} (hw:zvn x.crew=true):zKX x []=true:=by
 have h:zJ4 x.chart x.fleet []=some []:=by
  rw [zJ4,if_pos ⟨fun i hi=>absurd hi (Nat.not_lt_zero _),Nat.zero_le _⟩];rfl
 rw [zvn] at hw
 simp only [In,jJ,decide_eq_true_eq] at hw
 rw [zKX,show ([]:List POption).flatMap (·.pas)=[] from rfl,h]
 simp only [zKT,jJ,jQ,decide_eq_true_eq]
 exact ⟨.inl (by simp only [List.length_nil];omega),.inl (by show (([]:List DDuty).length:Int)≤_;simp only [List.length_nil];omega)⟩
theorem zK0 {x:PHarbour} {l l2:List POption} (hw:zvn x.crew=true) (hg:∀ o ∈ l ++ l2,zBC x.chart x.fleet o.pas) (h12:(l ++ l2).length≤12) (h:zKX x (l ++ l2)=true):zKX x l=true:=by
 obtain ⟨hr,ht⟩:=zBn hw
 have hd:=zCg hg h12
 rw [zKX] at h ⊢
 cases hq:zJ4 x.chart x.fleet ((l ++ l2).flatMap (·.pas)) with
 | none=>rw [hq] at h;cases h
 | some d =>
  rw [hq] at h
  have hdd:=zKg hq
  simp only [jJ] at h
  rw [zJ4] at hq
  split at hq
  ·rename_i hc
   obtain ⟨hc1,hc2⟩:=hc
   obtain rfl:=Option.some.inj hq
   rw [List.flatMap_append] at hc1 hc2 hdd h
   rw [show tugL x.chart x.fleet (l.flatMap (·.pas) ++ l2.flatMap (·.pas))=tugL x.chart x.fleet (l.flatMap (·.pas)) ++ tugL x.chart x.fleet (l2.flatMap (·.pas)) from List.flatMap_append] at hc2 hdd h
   have hs:zJ4 x.chart x.fleet (l.flatMap (·.pas))=some (tugL x.chart x.fleet (l.flatMap (·.pas))):=by
    have hall:∀ i,i < (l.flatMap (·.pas)).length→pOk x.chart x.fleet (l.flatMap (·.pas)) i=true:=fun i hi=>by
     have:=hc1 i (by rw [List.length_append];omega)
     rw [pOk,List.getD_eq_getElem?_getD,List.getElem?_append_left hi] at this
     rw [pOk,List.getD_eq_getElem?_getD];exact this
    rw [zJ4,if_pos ⟨hall,by rw [List.length_append] at hc2;omega⟩]
   rw [hs]
   simp only [jJ]
   have hpd:pilD x.chart (l ++ l2)=pilD x.chart l ++ pilD x.chart l2:=by rw [pilD,List.filter_append,List.map_append];rfl
   rw [hpd] at hd h
   exact ⟨zKW (by decide) ht hdd h.1,zKW hr ht hd h.2⟩
  ·cases hq
theorem zK2 (p q:DPassage):Ov p q=Ov q p:=by rw [Ov,Ov,Int.max_comm,Int.min_comm]
theorem zK3 (a b g:Int):zJM a b g=zJM b a g:=by rw [zJM,zJM,Int.max_comm,Int.min_comm]
theorem zK4 (c:PChart) (r:DRegime) (p q:DPassage):zJN c r p q=zJN c r q p:=by
 by_cases hc:p.seg=q.seg∧0≤p.seg∧p.seg < c.segments.length
 ·have hc2:q.seg=p.seg∧0≤q.seg∧q.seg < c.segments.length:=⟨hc.1.symm,by rw [← hc.1];exact hc.2⟩
  rw [zJN,zJN,if_neg (not_not_intro hc),if_neg (not_not_intro hc2),zK2 q p,zK3 q.start,zK3 q.fin,hc.1]
  by_cases hs:p.ship=q.ship
  ·rw [if_pos hs,if_pos hs.symm]
  ·rw [if_neg hs,if_neg (Ne.symm hs)]
   by_cases ht:p.toward=q.toward
   ·rw [if_neg (not_not_intro ht),if_neg (not_not_intro ht.symm)]
    split
    ·rfl
    ·by_cases h4:(p.start < q.start∧q.fin < p.fin)∨(q.start < p.start∧p.fin < q.fin)
     ·rw [if_pos h4,if_pos h4.symm]
     ·rw [if_neg h4,if_neg fun h=>h4 h.symm]
   ·rw [if_pos ht,if_pos (Ne.symm ht)]
 ·have hc2:¬ (q.seg=p.seg∧0≤q.seg∧q.seg < c.segments.length):=fun h=>hc ⟨h.1.symm,by rw [← h.1];exact h.2⟩
  rw [zJN,zJN,if_pos hc,if_pos hc2]
theorem zK5 (c:PChart) (r:DRegime) (a b:List DPassage):zJO c r a b=zJO c r b a:=by
 rw [Bool.eq_iff_iff]
 simp only [zJO,List.any_eq_true,decide_eq_true_eq]
 constructor
 ·rintro ⟨p,hp,q,hq,h⟩;exact ⟨q,hq,p,hp,by rw [zK4];exact h⟩
 ·rintro ⟨p,hp,q,hq,h⟩;exact ⟨q,hq,p,hp,by rw [zK4];exact h⟩
def zK6 (x:PHarbour) (l:List POption) (o:POption):Bool:=!(l.any fun p=>zJO x.chart x.regime p.pas o.pas)
def zK7 (x:PHarbour) (l:List POption) (o:POption):Bool:=zK6 x l o && zKX x (l ++ [o])
theorem zLe {x:PHarbour} {calls:List DCall} (h:zJJ x calls=true):zvn x.crew=true:=by
 rw [zJJ,zvo,jJ,jJ,jJ] at h
 exact h.1.1.2
end Go.Proofs.YtbkaaakphpbmiaaGreat
