/- A part. -/
import Derived.Test.YtmechmjjcgdpdaaGreatDoorPD
import Derived.Test.YtmechmjjcgdpdaaGreatDoorReads
set_option linter.unusedVariables false
set_option linter.unusedSimpArgs false
namespace Go.Proofs.YtmechmjjcgdpdaaGreatDoor
open Go.RowKit
def Ns (W:World):Cx:=⟨W,fun _=>0,fun _=>False,fun _=>none,fun _=>False⟩
theorem nC {W:World} {b:Nat}:¬(Ns W).own b:=fun ⟨_,_,h,_⟩=>by simp [Ns] at h
theorem He {W:World} {b:Nat} (h:b<W.heap.size):(Ns W).Bs b:=⟨h,nC,fun h=>h⟩
theorem uS (W:World):Good W.heap.size (Ns W):=⟨Nat.le_refl _,fun _ _ h=>by simp [Ns] at h,fun _ _ h=>by simp [Ns] at h,fun _ h=>h.elim,fun _ _ _ _ h=>by simp [Ns] at h⟩
theorem We {P:Program} {gl:Nat→Option (List AV)} {f:FuncId} {args:List AV} {b:Bool} (h:Cj P gl f args (.sc (.bool b))) {W:World} (hgl:B2 gl (Ns W)) {vals:List Value} (hr:Be (Ns W) args vals):
  Calls P f vals.toArray W (fun e w'=>e=.returned (.bool b)∧Below W.heap.size W w'):=by
 refine (h.2.2.2 W.heap.size (Ns W) vals (uS W) hgl (fun _ _ h=>by cases h) hr).mono ?_
 rintro e w' ⟨v',c',rfl,rfl,h1,h2,-⟩
 cases h1
 exact ⟨rfl,h2.os,h2.tape,h2.output,h2.size,fun k hk=>h2.Bd k hk nC⟩
theorem Ih {W:World} {α:Type} (E:En α) (e:Sh) (P:α→Prop) (hsz:e.size=E.size) {a:Option Addr} {n cap:Nat} (hq:∀es,es.length=e.size→Reads W e es→∃x,Be (Ns W) (E.enc x) es∧P x) (h:Reads W (.sl e) [.slice a n cap]):
  ∃l:List α,A9 (Ns W) (Ai E l) (.slice a n cap)∧l.length≤maxLen∧∀x∈l,P x:=by
 unfold Reads at h
 obtain ⟨a',n',c',he,h1,h2,h3,h4⟩:=h
 simp only [List.cons.injEq,Value.slice.injEq,and_true] at he
 obtain ⟨rfl,rfl,rfl⟩:=he
 have hp:=E.pos
 rcases Nat.eq_zero_or_pos n with h0|h0
 ·subst h0
  exact ⟨[],.Dy a cap false (fun h=>by cases h) h2 h3,Nat.zero_le _,fun x hx=>by simp at hx⟩
 ·obtain ⟨b,off,rfl,hb,hi⟩:=h4 h0 (by omega)
  have key:∀k,k≤n→∃(l:List α) (vs:List Value),l.length=k∧vs.length=k*E.size∧Be (Ns W) (Az E l) vs∧E4 W b off vs∧∀x∈l,P x:=by
   intro k
   induction k with
   |zero=>intro _;exact ⟨[],[],rfl,by simp,.nil,fun k v h=>by simp at h,fun x hx=>by simp at hx⟩
   |succ k ih=>
    intro hk
    obtain ⟨l,vs,q1,q2,q3,q4,q5⟩:=ih (by omega)
    obtain ⟨es,e1,e2,e3⟩:=hi k (by omega)
    obtain ⟨x,hx,hpx⟩:=hq es e1 e3
    refine ⟨l++[x],vs++es,by simp [q1],by rw [List.length_append,q2,e1,hsz,Nat.add_mul];omega,?_,?_,?_⟩
    ·rw [Ef,zL];exact q3.append hx
    ·intro j v hv
     rcases Nat.lt_or_ge j vs.length with hj|hj
     ·rw [List.getElem?_append_left hj] at hv;exact q4 j v hv
     ·rw [List.getElem?_append_right hj] at hv
      have hlt:j-vs.length<es.length:=by
       rcases Nat.lt_or_ge (j-vs.length) es.length with h|h
       ·exact h
       ·rw [List.getElem?_eq_none h] at hv;cases hv
      have:=e2 (j-vs.length) (by omega)
      rw [hv] at this
      rw [← this]
      congr 2
      rw [hsz] at*
      omega
    ·intro y hy
     rcases List.mem_append.1 hy with hy|hy
     ·exact q5 y hy
     ·simp at hy;subst hy;exact hpx
  obtain ⟨l,vs,q1,q2,q3,q4,q5⟩:=key n (Nat.le_refl _)
  refine ⟨l,?_,by omega,q5⟩
  subst q1
  exact .Dh (c:=Ns W) (He hb) q3 q4 h1 (fun h=>by cases h) h2
theorem Eg {c:Cx} {v:Value} (hv:Lm v=true) {xs:List AV} {vs:List Value} (h:Be c xs vs):Be c (.sc v::xs) (v::vs):=.cons (.sc v hv) h
end Go.Proofs.YtmechmjjcgdpdaaGreatDoor
