/- Plain theorems about the model. -/
import Derived.Test.YtbkaaakphpbmiaaGreatSGBestPlanx17
set_option linter.unusedVariables false
set_option linter.unusedSimpArgs false
set_option maxRecDepth 4000
open Nat renaming reduceAdd → jq, reduceMul → jj, reduceBEq → jy, reduceLeDiff → jv, reduceLT → jk, reduceEqDiff → jx
open Bool renaming or_eq_false_iff → jp, or_eq_true → jQ, and_eq_true → jJ
open Int renaming toNat_natCast → jW, natCast_nonneg → jY
namespace Go.SL
open Go Go.RowKit
theorem WOk.rep {W0:Base} {h0:Hp} {ρ:Rho} {p:List (Nat × PB)} {h:Hp} {W:World} (hW:WOk W0 h0 ρ p h W) {r:Nat} {b0 b:PB} (hr:look r p=some b0) (ho:b.ok 0 ρ r W):WOk W0 h0 ρ (setP r b p) h W:=by
 refine ⟨hW.below,hW.sees,hW.ext,hW.new,fun r' b' g' hr' hat'=>?_,fun r' b' hr'=>?_,fun r' b' g' hr' hat'=>?_,fun r1 b1 r2 b2 g' h1 h2 a1 a2=>?_⟩
 ·rw [zb0 hr] at hr'
  split at hr'
  ·rename_i e;subst e;exact hW.own r' b0 g' hr hat'
  ·exact hW.own r' b' g' hr' hat'
 ·rw [zb0 hr] at hr'
  split at hr'
  ·rename_i e;subst e;simp only [Option.some.injEq] at hr';subst hr';exact ho
  ·exact hW.priv r' b' hr'
 ·rw [zb0 hr] at hr'
  split at hr'
  ·rename_i e;subst e;exact hW.apart r' b0 g' hr hat'
  ·exact hW.apart r' b' g' hr' hat'
 ·have key:∀ k b',look k (setP r b p)=some b'→∃ b'',look k p=some b'':=fun k b' hk=>by
   rw [zb0 hr] at hk
   split at hk
   ·rename_i e;subst e;exact ⟨_,hr⟩
   ·exact ⟨_,hk⟩
  obtain ⟨c1,k1⟩:=key r1 b1 h1
  obtain ⟨c2,k2⟩:=key r2 b2 h2
  exact hW.distinct r1 c1 r2 c2 g' k1 k2 a1 a2
theorem zoj {x:Cx} {st:St} {c:Code} {Q:Exit→St→Prop} (r:Nat) {ty:TypeId} (pre post:List SC) (e:TypeId) (sz:Nat) (hr:look r st.p=some (.box ty (pre ++ .v (.slice none 0 0) :: post)))
  (h:T x ⟨st.e,(st.nx,.row e sz 0 []) :: setP r (.box ty (pre ++ .s st.nx :: post)) st.p,st.h,st.nx+1⟩ c Q):T x st c Q:=by
 unfold T at *
 rintro a W ⟨ρ,hf,hW,hw⟩
 have hlt:=zao (wf_p hw) hr
 have hne:st.nx ≠ r:=fun e=>by omega
 refine h a W ⟨upd ρ st.nx (.slice none 0 0),?_,?_,?_⟩
 ·exact hf.congr (wf_e hw) (zbU ρ st.nx _)
 ·have hat:∀ g,atV (.slice none 0 0) g→False:=fun g hg=>by
   rcases hg with hg|⟨_,_,hg⟩ <;> cases hg
  have base:WOk x.W0 x.h0 (upd ρ st.nx (.slice none 0 0)) ((st.nx,.row e sz 0 []) :: st.p) st.h W :=
   hW.add (wf_p hw) (fun _ _ x=>x) hW.below hW.sees (fun g hg=>(hat g hg).elim) (fun r b hr=>hW.priv r b hr) (by
    show W.ownsRow 0 e sz (upd ρ st.nx _ st.nx) 0 []
    rw [zbT]
    exact ⟨by simp,.inl ⟨rfl,rfl⟩⟩) (fun g hg=>(hat g hg).elim) (fun r b' g _ _ hg=>(hat g hg).elim)
  have hr2:look r ((st.nx,PB.row e sz 0 []) :: st.p)=some (.box ty (pre ++ .v (.slice none 0 0) :: post)):=by
   simp only [look,if_neg hne];exact hr
  have:=base.rep (b:=.box ty (pre ++ .s st.nx :: post)) hr2 (by
   obtain ⟨g,h1,h2,h3⟩:=base.priv r _ hr2
   refine ⟨g,h1,h2,?_⟩
   rw [h3]
   congr 3
   simp only [List.map_append,List.map_cons,zaj,zah,zbT])
  simp only [setP,if_neg hne] at this
  exact this
 ·have hle:st.nx≤st.nx+1:=Nat.le_succ _
  have hb:(PB.box ty (pre ++ .s st.nx :: post)).lt (st.nx+1)=true:=by
   have h1:=hlt.2
   simp only [PB.lt,List.all_append,List.all_cons,jJ] at h1 ⊢
   refine ⟨?_,by simp [SC.lt],?_⟩
   ·rw [List.all_eq_true] at *
    intro c hc
    have:=h1.1 c hc
    cases c <;> simp_all [SC.lt] <;> omega
   ·have h2:=h1.2.2
    rw [List.all_eq_true] at *
    intro c hc
    have:=h2 c hc
    cases c <;> simp_all [SC.lt] <;> omega
  simp only [St.wf,jJ]
  exact ⟨zap hle (wf_e hw),by
   simp only [pbLt,jJ,decide_eq_true_eq]
   exact ⟨⟨by omega,rfl⟩,zb1 hb (zaq hle (wf_p hw))⟩⟩
end Go.SL
