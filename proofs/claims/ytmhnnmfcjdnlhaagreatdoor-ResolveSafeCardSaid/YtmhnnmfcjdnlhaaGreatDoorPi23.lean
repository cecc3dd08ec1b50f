/- A part. -/
import Derived.Test.YtmhnnmfcjdnlhaaGreatDoorPD
import Derived.Test.YtmhnnmfcjdnlhaaGreatDoorReads
set_option linter.unusedVariables false
set_option linter.unusedSimpArgs false
namespace Go.Proofs.YtmhnnmfcjdnlhaaGreatDoor
open Go.RowKit
def Qg (W:World):Cx:=⟨W,fun _=>0,fun _=>False,fun _=>none,fun _=>False⟩
theorem bI {W:World} {b:Nat}:¬(Qg W).own b:=fun ⟨_,_,h,_⟩=>by simp [Qg] at h
theorem Jd {W:World} {b:Nat} (h:b<W.heap.size):(Qg W).Ch b:=⟨h,bI,fun h=>h⟩
theorem nX (W:World):Good W.heap.size (Qg W):=⟨Nat.le_refl _,fun _ _ h=>by simp [Qg] at h,fun _ _ h=>by simp [Qg] at h,fun _ h=>h.elim,fun _ _ _ _ h=>by simp [Qg] at h⟩
theorem S3 {P:Program} {gl:Nat→Option (List AV)} {f:FuncId} {args:List AV} {b:Bool} (h:Dc P gl f args (.sc (.bool b))) {W:World} (hgl:Dr gl (Qg W)) {vals:List Value} (hr:Cf (Qg W) args vals):
  Calls P f vals.toArray W (fun e w'=>e=.returned (.bool b)∧Below W.heap.size W w'):=by
 refine (h.2.2.2 W.heap.size (Qg W) vals (nX W) hgl (fun _ _ h=>by cases h) hr).mono ?_
 rintro e w' ⟨v',c',rfl,rfl,h1,h2,-⟩
 cases h1
 exact ⟨rfl,h2.os,h2.tape,h2.output,h2.size,fun k hk=>h2.Cr k hk bI⟩
theorem Td {W:World} {α:Type} (E:En α) (e:Sh) (P:α→Prop) (hsz:e.size=E.size) {a:Option Addr} {n cap:Nat} (hq:∀es,es.length=e.size→Reads W e es→∃x,Cf (Qg W) (E.enc x) es∧P x) (h:Reads W (.sl e) [.slice a n cap]):
  ∃l:List α,B9 (Qg W) (As E l) (.slice a n cap)∧l.length≤maxLen∧∀x∈l,P x:=by
 unfold Reads at h
 obtain ⟨a',n',c',he,h1,h2,h3,h4⟩:=h
 simp only [List.cons.injEq,Value.slice.injEq,and_true] at he
 obtain ⟨rfl,rfl,rfl⟩:=he
 have hp:=E.pos
 rcases Nat.eq_zero_or_pos n with h0|h0
 ·subst h0
  exact ⟨[],.Ga a cap false (fun h=>by cases h) h2 h3,Nat.zero_le _,fun x hx=>by simp at hx⟩
 ·obtain ⟨b,off,rfl,hb,hi⟩:=h4 h0 (by omega)
  have key:∀k,k≤n→∃(l:List α) (vs:List Value),l.length=k∧vs.length=k*E.size∧Cf (Qg W) (Bl E l) vs∧Iq W b off vs∧∀x∈l,P x:=by
   intro k
   induction k with
   |zero=>intro _;exact ⟨[],[],rfl,by simp,.nil,fun k v h=>by simp at h,fun x hx=>by simp at hx⟩
   |succ k ih=>
    intro hk
    obtain ⟨l,vs,q1,q2,q3,q4,q5⟩:=ih (by omega)
    obtain ⟨es,e1,e2,e3⟩:=hi k (by omega)
    obtain ⟨x,hx,hpx⟩:=hq es e1 e3
    refine ⟨l++[x],vs++es,by simp [q1],by rw [List.length_append,q2,e1,hsz,Nat.add_mul];omega,?_,?_,?_⟩
    ·rw [E4,mN];exact q3.append hx
    ·intro j v hv
     rcases Nat.lt_or_ge j vs.length with hj|hj
     ·rw [List.getElem?_append_left hj] at hv;exact q4 j v hv
     ·rw [List.getElem?_append_right hj] at hv
      have hlt:j-vs.length<es.length:=by
       rcases Nat.lt_or_ge (j-vs.length) es.length with h|h
       ·exact h
       ·rw [List.getElem?_eq_none h] at hv;cases hv
      have:=e2 (j-vs.length) (by omega)
      rw [hv] at this
      rw [← this]
      congr 2
      rw [hsz] at*
      omega
    ·intro y hy
     rcases List.mem_append.1 hy with hy|hy
     ·exact q5 y hy
     ·simp at hy;subst hy;exact hpx
  obtain ⟨l,vs,q1,q2,q3,q4,q5⟩:=key n (Nat.le_refl _)
  refine ⟨l,?_,by omega,q5⟩
  subst q1
  exact .Ek (c:=Qg W) (Jd hb) q3 q4 h1 (fun h=>by cases h) h2
theorem D8 {c:Cx} {v:Value} (hv:Of v=true) {xs:List AV} {vs:List Value} (h:Cf c xs vs):Cf c (.sc v::xs) (v::vs):=.cons (.sc v hv) h
end Go.Proofs.YtmhnnmfcjdnlhaaGreatDoor
