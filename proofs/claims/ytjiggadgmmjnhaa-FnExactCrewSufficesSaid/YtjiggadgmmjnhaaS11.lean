/- Plain theorems about the model: a symbolic state, its evaluation and its soundness. No condition; nothing of the program is named. -/
import Derived.Test.YtjiggadgmmjnhaaXCrewSuffices10
set_option linter.unusedVariables false
set_option linter.unusedSimpArgs false
namespace Go.SL
open Go Go.RowKit
section
variable {x:Cx} {st:St} {Q Q':Exit→St→Prop}
theorem zvx {c:Code} (hq:∀ e st,Q e st→Q' e st) (h:T x st c Q):T x st c Q':=by
  unfold T at *
  intro a W hC
  refine Code.wp_mono ?_ (h a W hC)
  rintro e a' W' ⟨st',h1,h2⟩
  exact ⟨st',hq e st' h1,h2⟩
theorem zvy {ι:Type} {c d:Code} (S:ι→St) (ok:ι→Prop) (h:T x st c (zc1 (fun st'=>∃ i,ok i∧st'.le (S i)) Q)) (hr:∀ i,ok i→T x (S i) d Q):T x st c (zc1 (fun st'=>T x st' d Q) Q):=by
  refine zvx (fun e st' hq=>?_) h
  cases e with
  | normal =>
    obtain ⟨i,h1,h2⟩:=hq
    exact zdc h2 (hr i h1)
  | _=>exact hq
end
end Go.SL
namespace Go.SL
open Go Go.RowKit
section
variable {α:Type} [Enc α] {e:TypeId} {h h2:Hp} {s:Sl α}
theorem zvz {α:Type} {h:Hp} {s:Sl α}:(zub h s).le h:=by
  intro k o hk
  rcases s with ⟨a,cap,l⟩
  cases a with
  | none=>exact hk
  | some a =>
    simp only [zub,Hp.del] at hk
    split at hk
    · cases hk
    · exact hk
theorem zvA {α:Type} {h h2:Hp} {s:Sl α} (hle:h.le h2):(zub h s).le (zub h2 s):=by
  intro k o hk
  rcases s with ⟨a,cap,l⟩
  cases a with
  | none=>exact hle k o hk
  | some a =>
    simp only [zub,Hp.del] at hk ⊢
    split at hk
    · cases hk
    · rename_i hne;rw [if_neg hne];exact hle k o hk
theorem zvB {α:Type} {h:Hp} {s:Sl α} {k:Nat} (hk:∀ a,s.a=some a→k ≠ a.block):zub h s k=h k:=zud hk
theorem Pub.drop {β:Type} {hb:Hp} {sz n:Nat} {xs:List Value} {ad:Option Addr} {cap:Nat} {l:List β} (H:Pub hb e sz n xs ad cap h2):zub h2 (Sl.mk ad cap l)=hb:=by
  obtain ⟨h1,h3,h4,⟨ha,hn,hc,rfl⟩|⟨g,cur,rfl,hg,rfl,hsz,htk⟩⟩:=H
  · subst ha;rfl
  · funext k
    simp only [zub,Hp.del,Hp.ins]
    split
    · rename_i e;subst e;exact hg.symm
    · rfl
def WS (e:TypeId) (h:Hp) (s:Sl α):Prop:=RowAt e h s∧∀ x ∈ s.l,Enc.ok (zub h s) x
theorem WS.ok (hp:0 < Enc.size α) (H:WS e h s):s.Ok h:=H.1.ok hp fun x hx=>Enc.mono zvz (H.2 x hx)
theorem RowAt.blk (H:RowAt e h s):∀ a,s.a=some a→a=⟨a.block,0,none⟩:=fun a ha=>by
  obtain ⟨h1,h2⟩:=H.addr a ha
  cases a;simp only at h1 h2;subst h1 h2;rfl
theorem WS.grow (H:WS e h s) (hle:h.le h2):WS e h2 s∧(zub h s).le (zub h2 s):=by
  have hd:=zvA (s:=s) hle
  refine ⟨⟨H.1.keep fun g hg=>?_,fun x hx=>Enc.mono hd (H.2 x hx)⟩,hd⟩
  obtain ⟨h1,h3,⟨ha,_⟩|⟨g',cur,ha,hb,hsz,htk⟩⟩:=H.1
  · rw [ha] at hg;cases hg
  · rw [ha] at hg;cases hg
    rw [hb];exact hle _ _ hb
theorem WS.push {x:α} {ad:Option Addr} {cap:Nat} (H:WS e h s) (hx:Enc.ok (zub h s) x) (P:Pub (zub h s) e (Enc.size α) (s.l ++ [x]).length ((s.l ++ [x]).flatMap Enc.enc) ad cap h2) :
    WS e h2 (Sl.mk ad cap (s.l ++ [x]))∧zub h2 (Sl.mk ad cap (s.l ++ [x]))=zub h s∧(∀ g,ad=some ⟨g,0,none⟩→h g=none∨s.a=some ⟨g,0,none⟩)∧∀ k o,h k=some o→s.a ≠ some ⟨k,0,none⟩→h2 k=some o:=by
  have hd:=P.drop (l:=s.l ++ [x])
  obtain ⟨h1,h3,h4⟩:=P.row
  refine ⟨⟨h1,fun y hy=>?_⟩,hd,fun g hg=>?_,fun k o hk hne=>?_⟩
  · rw [hd]
    rcases List.mem_append.1 hy with hy|hy
    · exact H.2 y hy
    · rw [List.mem_singleton.1 hy];exact hx
  · by_cases e:s.a=some ⟨g,0,none⟩
    · exact .inr e
    · left
      have:=h3 g hg
      rw [zvB (fun a ha e'=>e (by rw [ha,H.1.blk a ha,e']))] at this
      exact this
  · have hk2:zub h s k=some o:=by
      rw [zvB (fun a ha e'=>hne (by rw [ha,H.1.blk a ha,e']))];exact hk
    rw [h4 k fun g hg e=>(by subst e;rw [h3 _ hg] at hk2;cases hk2),hk2]
end
theorem zvC {a b c d u:Value}:(spl 2 [u] [a,b,c,d]).toArray=#[a,b,u,d]:=rfl
theorem zvD {a b c d u:Value}:(spl 3 [u] [a,b,c,d]).toArray=#[a,b,c,u]:=rfl
end Go.SL
