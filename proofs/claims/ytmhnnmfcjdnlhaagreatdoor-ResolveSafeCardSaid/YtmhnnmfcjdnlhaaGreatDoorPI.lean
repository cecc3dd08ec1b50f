/- A part. -/
import Derived.Test.YtmhnnmfcjdnlhaaGreatDoorPG
import Derived.KernelRfl
set_option linter.unusedVariables false
set_option linter.unusedSimpArgs false
namespace Go.Proofs.YtmhnnmfcjdnlhaaGreatDoor
open Go.RowKit
section
variable {α:Type} {E:En α} {P:Program} {K:Jz} {gl:Nat→Option (List AV)}
theorem Z5 {look:Nat→Option B5} {n:Nat} {f:FuncId} {args:List AV} {v:AV} {d:Wr} (id:Nat) (h:E3 P gl look n f args v d):E3 P gl look n f args v (d++[(id,none)]):=by
 refine ⟨h.1,fun B c vals g hgl hn hlk hr=>(h.2 B c vals g hgl hn hlk hr).mono ?_⟩
 rintro e w' ⟨v',c',h1,h2,h3,h4,h5,h6,h7,h8⟩
 refine ⟨v',c'.drop id,h1,h2,h3.step (Kj c' id),h4.trans (Kj c' id),Tw h5 id,fun k=> ?_,h7,h8⟩
 have:∀(d:Wr) (M:Nat→Option B5),Uj M (d++[(id,none)]) k=if k=id then none else Uj M d k:=by
  intro d
  induction d with
  |nil=>intro M;rfl
  |cons p d ih=>intro M;obtain ⟨i,r⟩:=p;exact ih _
 rw [this,← h6]
 rfl
theorem Y6 {b0 b1 Cr:B5} {j:Nat} (h:Am [(0,some b0),(1,some b1)] j=some Cr):(j=0∧Cr=b0)∨(j=1∧Cr=b1):=by
 match j,h with
 |0,h=>exact .inl ⟨rfl,(Option.some.inj h).symm⟩
 |1,h=>exact .inr ⟨rfl,(Option.some.inj h).symm⟩
 |j+2,h=>simp [Am,Nat.beq] at h
theorem Yl {c:Cx}:∀(vs:List Value),Cf c (List.replicate vs.length .E9) vs
 |[]=> .nil
 |v::vs=> .cons (.E9 v) (Yl vs)
theorem mP {n id wid ty ty2:Nat} {look:Nat→Option B5} {f:FuncId} {l l0 l' xs xs0:List α} {i:Int} (hE:ScE E) (hl:l0.length=l.length) (hne:l≠[]) (hb:look id=C7 E ty l) (hl2:xs0.length=xs.length) (hne2:xs≠[]) (hb2:look wid=some ⟨Bl E xs,ty2⟩) (hid:id≠wid) (hle:l.length≤maxLen)
  (h:∀C,l.length≤C→C≤maxLen→Rb P gl [(0,some ⟨Bl E l++List.replicate ((C-l.length)*E.size) .E9,ty⟩),(1,some ⟨Bl E xs,ty2⟩)] 2 f [.sl 0 0 E.size l.length C true,Aa i,.sl 1 0 E.size xs.length xs.length false] (U1 E ty l')):
  E3 P gl look n f [B7 E id l0,Aa i,Ik E wid xs0] (uP E n l') [(n,some ⟨Bl E l',ty⟩),(wid,none),(id,none)]:=by
 refine ⟨(h l.length (Nat.le_refl _) hle).1,fun B c vals g hgl hn hlk hr=> ?_⟩
 have hl0:l0≠[]:=by rintro rfl;exact hne (List.eq_nil_of_length_eq_zero hl.symm)
 rw [Hi hl0,hl,Ik,hl2] at hr
 rw [E0 hne] at hb
 have hM:=hlk id _ hb
 have hM2:=hlk wid _ hb2
 have hfid:=g.lt hM
 have hfid2:=g.lt hM2
 have hidn:id≠n:=fun e=>hn (e ▸ (g.low id _ hM).2)
 have hwn:wid≠n:=fun e=>hn (e ▸ (g.low wid _ hM2).2)
 have hff:c.f id≠c.f wid:=fun e=>hid (g.inj id wid _ _ hM hM2 e)
 cases hr with
 |cons hv hr=>
 cases hr with
 |cons hvi hr=>
 cases hr with
 |cons hvx hr=>
 cases hr with
 |nil=>
 rename_i v vi vx
 cases hv with
 |sl ha hbb hs hk hc he hm=>
 rename_i C arr T
 obtain ⟨arr0,vs,rest,q1,q2,q3⟩:=g.Cr id _ hM
 rw [q1] at hbb
 simp only [Option.some.injEq,Obj.cells.injEq] at hbb
 obtain ⟨rfl,-⟩:=hbb
 have hvs:vs.length=l.length*E.size:=by rw [← q3.length,Cm]
 have hrest:(C-l.length)*E.size≤rest.length:=by
  have h1:arr0.toList.length=(vs++rest).length:=by rw [q2]
  rw [List.length_append,hvs,Array.length_toList] at h1
  rw [Nat.sub_mul]
  omega
 let c1:Cx:={w:=c.w,f:=fun j=>if j=0 then c.f id else c.f wid,al:=fun j=>j<2,M:=fun j=>Am [(0,some ⟨Bl E l++List.replicate ((C-l.length)*E.size) .E9,ty⟩),(1,some ⟨Bl E xs,ty2⟩)] j,no:=c.no}
 have own1:∀b,c1.own b→b=c.f id∨b=c.f wid:=by
  rintro b ⟨j,Cr,h1,h2⟩
  rcases Y6 h1 with ⟨rfl,-⟩|⟨rfl,-⟩
  ·exact .inl h2.symm
  ·exact .inr h2.symm
 have hst:∀b,c.Ch b→c1.Ch b:=fun b ⟨h1,h2,h3⟩=>⟨h1,fun ho=>by
  rcases own1 b ho with rfl|rfl
  ·exact h2 ⟨id,_,hM,rfl⟩
  ·exact h2 ⟨wid,_,hM2,rfl⟩,h3⟩
 have g1:Good B c1:=by
  refine ⟨g.hB,fun j Cr h=> ?_,fun j Cr h=> ?_,g.K6,fun j j' Cr blk' h h' hf=> ?_⟩
  ·rcases Y6 h with ⟨rfl,-⟩|⟨rfl,-⟩
   ·exact ⟨(g.low id _ hM).1,show (0:Nat)<2 by decide⟩
   ·exact ⟨(g.low wid _ hM2).1,show (1:Nat)<2 by decide⟩
  ·rcases Y6 h with ⟨rfl,rfl⟩|⟨rfl,rfl⟩
   ·refine ⟨arr0,vs++rest.take ((C-l.length)*E.size),rest.drop ((C-l.length)*E.size),q1,by rw [List.append_assoc,List.take_append_drop];exact q2,(Kx (K2 hE l) q3).append ?_⟩
    have:=Yl (c:=c1) (rest.take ((C-l.length)*E.size))
    rwa [List.length_take,Nat.min_eq_left hrest] at this
   ·obtain ⟨arr,vs,rest,q1,q2,q3⟩:=g.Cr wid _ hM2
    exact ⟨arr,vs,rest,q1,q2,Kx (K2 hE xs) q3⟩
  ·rcases Y6 h with ⟨rfl,-⟩|⟨rfl,-⟩<;>rcases Y6 h' with ⟨rfl,-⟩|⟨rfl,-⟩
   ·rfl
   ·exact absurd hf hff
   ·exact absurd hf.symm hff
   ·rfl
 have r0:B9 c1 (.sl 0 0 E.size l.length C true) (.slice (some ⟨c.f id,0,none⟩) l.length C):=.sl (c:=c1) (id:=0) (show (0:Nat)<2 by decide) q1 hs (by omega) (Nat.le_refl _) (fun _=>rfl) hm
 have r1:B9 c1 (.sl 1 0 E.size xs.length xs.length false) vx:=by
  cases hvx with
  |sl ha hb hs hk hc he hm=>exact .sl (c:=c1) (id:=1) (show (1:Nat)<2 by decide) hb hs hk hc (fun h=>by cases h) hm
 have ri:B9 c1 (Aa i) vi:=by
  cases hvi with
  |sc _ h=>exact .sc _ h
 refine ((h C (by omega) hm).2 B c1 _ g1 (Dr.Cn (c:=c) rfl hst hgl) (fun _=>rfl) (fun j hj=>hj) (.cons r0 (.cons ri (.cons r1 .nil)))).mono ?_
 rintro e w' ⟨u,m,nx',⟨k,cap,ex,rst0,rfl,hk⟩,v',c2,rfl,rfl,k1,st,g2,k4,k5⟩
 have hk2:c2.M k=some ⟨Bl E l'++rst0,ty⟩:=by rw [k4];exact hk
 have hlow2:=(g2.low k _ hk2).1
 have hsz:c.w.heap.size≤c2.w.heap.size:=st.size
 have hfk:=g2.lt hk2
 have hwhere:(c2.f k=c.f id∨c2.f k=c.f wid)∨c.w.heap.size≤c2.f k:=by
  rcases Nat.lt_or_ge (c2.f k) c.w.heap.size with hlt|hge
  ·exact .inl (own1 _ (st.own _ hlt ⟨k,_,hk2,rfl⟩))
  ·exact .inr hge
 let c':Cx:={w:=c2.w,f:=fun i=>if i=n then c2.f k else c.f i,al:=fun i=>c.al i∨i=n,M:=Uj c.M [(n,some ⟨Bl E l',ty⟩),(wid,none),(id,none)],no:=c.no}
 have hM':∀i,c'.M i=if i=id then none else if i=wid then none else if i=n then some ⟨Bl E l',ty⟩ else c.M i:=fun i=>rfl
 have hMi:∀i Cr,c'.M i=some Cr→(i=n∧Cr=⟨Bl E l',ty⟩)∨(i≠n∧i≠id∧i≠wid∧c.M i=some Cr):=by
  intro i Cr h
  rw [hM'] at h
  by_cases e1:i=id
  ·rw [if_pos e1] at h;cases h
  ·rw [if_neg e1] at h
   by_cases e0:i=wid
   ·rw [if_pos e0] at h;cases h
   ·rw [if_neg e0] at h
    by_cases e2:i=n
    ·rw [if_pos e2] at h;exact .inl ⟨e2,(Option.some.inj h).symm⟩
    ·rw [if_neg e2] at h;exact .inr ⟨e2,e1,e0,h⟩
 have own':∀x,c'.own x→c.own x∨x=c2.f k:=by
  rintro x ⟨i,Cr,h1,h2⟩
  rcases hMi i Cr h1 with ⟨e,-⟩|⟨e,-,-,h3⟩
  ·right;simp only [c',e,if_true] at h2;exact h2.symm
  ·left;simp only [c',e,if_false] at h2;exact ⟨i,Cr,h3,h2⟩
 have ownc:∀x,c1.own x→c.own x:=fun x h=>by
  rcases own1 x h with rfl|rfl
  ·exact ⟨id,_,hM,rfl⟩
  ·exact ⟨wid,_,hM2,rfl⟩
 have stp:Step c c':=by
  refine ⟨st.os,st.tape,st.output,st.size,fun x hx ho=>st.Cr x hx (fun h=>ho (ownc x h)),fun x hx ho=> ?_,fun i hi=> ?_,fun i hi=> .inl hi,fun _=>Iff.rfl,st.Yf,st.drawn⟩
  ·rcases own' x ho with h|h
   ·exact h
   ·have hx':x<c.w.heap.size:=hx
    rcases hwhere with (h2|h2)|h2
    ·exact ⟨id,_,hM,by rw [h,h2]⟩
    ·exact ⟨wid,_,hM2,by rw [h,h2]⟩
    ·omega
  ·have:i≠n:=fun h=>hn (h ▸ hi)
   simp [c',this]
 refine ⟨v',c',rfl,rfl,?_,stp,⟨Nat.le_trans g.hB hsz,fun i Cr h=> ?_,fun i Cr h=> ?_,g.K6,fun i i' Cr blk' h h' hf=> ?_⟩,fun i=>rfl,fun i h=>h,fun i h=> .inl h⟩
 ·cases k1 with
  |sl ha hb hs hk hc he hm=>
   have:=B9.sl (c:=c') (id:=n) (off:=0) (esz:=E.size) (n:=l'.length) (cap:=l'.length) (ex:=false) (.inr rfl) (by simp only [c',if_true];exact hb) hs (Nat.le_refl _) (Nat.le_trans hk hc) (fun h=>by cases h) hm
   simpa [c',uP] using this
 ·rcases hMi i Cr h with ⟨e,-⟩|⟨e,-,-,h3⟩
  ·simp only [c',e,if_true];exact ⟨hlow2,.inr trivial⟩
  ·simp only [c',e,if_false];exact ⟨(g.low i Cr h3).1,.inl (g.low i Cr h3).2⟩
 ·rcases hMi i Cr h with ⟨e,rfl⟩|⟨e,e2,e3,h3⟩
  ·obtain ⟨arr,vs,rst,q1,q2,q3⟩:=g2.Cr k _ hk2
   refine ⟨arr,vs.take (Bl E l').length,vs.drop (Bl E l').length++rst,by simp only [c',e,if_true];exact q1,by rw [← List.append_assoc,List.take_append_drop];exact q2,?_⟩
   have:=q3.take (Bl E l').length
   rw [List.take_left] at this
   exact Kx (K2 hE l') this
  ·obtain ⟨arr,vs,rst,q1,q2,q3⟩:=g.Cr i Cr h3
   refine ⟨arr,vs,rst,?_,q2,q3.step stp⟩
   simp only [c',e,if_false]
   exact (st.Cr _ (Hl q1) (fun ho=>by
    rcases own1 _ ho with h5|h5
    ·exact e2 (g.inj i id Cr _ h3 hM h5)
    ·exact e3 (g.inj i wid Cr _ h3 hM2 h5))).trans q1
 ·have hcl:∀i Cr,i≠id→i≠wid→c.M i=some Cr→c2.f k≠c.f i:=fun i Cr e2 e3 h3 hf=>by
   have hlt:=g.lt h3
   rcases hwhere with (h2|h2)|h2
   ·exact e2 (g.inj i id Cr _ h3 hM (by rw [← hf,h2]))
   ·exact e3 (g.inj i wid Cr _ h3 hM2 (by rw [← hf,h2]))
   ·omega
  rcases hMi i Cr h with ⟨e1,-⟩|⟨e1,e2,e2',h3⟩<;>rcases hMi i' blk' h' with ⟨e3,-⟩|⟨e3,e4,e4',h5⟩
  ·rw [e1,e3]
  ·exfalso
   simp only [c',e1,e3,if_true,if_false] at hf
   exact hcl i' blk' e4 e4' h5 hf
  ·exfalso
   simp only [c',e1,e3,if_true,if_false] at hf
   exact hcl i Cr e2 e2' h3 hf.symm
  ·simp only [c',e1,e3,if_false] at hf
   exact g.inj i i' Cr blk' h3 h5 hf
theorem kW {n wid ty ty2:Nat} {look:Nat→Option B5} {f:FuncId} {l' xs xs0:List α} {i:Int} (hE:ScE E) (hl2:xs0.length=xs.length) (hb2:look wid=some ⟨Bl E xs,ty2⟩)
  (h:Rb P gl [(0,some ⟨Bl E xs,ty2⟩)] 1 f [.Ek 0 [] true,Aa i,.sl 0 0 E.size xs.length xs.length false] (U1 E ty l')):
  E3 P gl look n f [.Ek 0 [] true,Aa i,Ik E wid xs0] (uP E n l') [(n,some ⟨Bl E l',ty⟩),(wid,none)]:=by
 refine ⟨h.1,fun B c vals g hgl hn hlk hr=> ?_⟩
 rw [Ik,hl2] at hr
 have hM:=hlk wid _ hb2
 have hfid:=g.lt hM
 have hidn:wid≠n:=fun e=>hn (e ▸ (g.low wid _ hM).2)
 cases hr with
 |cons hv hr=>
 cases hr with
 |cons hvi hr=>
 cases hr with
 |cons hvx hr=>
 cases hr with
 |nil=>
 rename_i v vi vx
 let c1:Cx:={w:=c.w,f:=fun _=>c.f wid,al:=fun j=>j=0,M:=fun j=>Am [(0,some ⟨Bl E xs,ty2⟩)] j,no:=c.no}
 have own1:∀b,c1.own b→b=c.f wid:=by
  rintro b ⟨j,Cr,h1,h2⟩
  exact h2.symm
 have hst:∀b,c.Ch b→c1.Ch b:=fun b ⟨h1,h2,h3⟩=>⟨h1,fun ho=>h2 (own1 b ho ▸ ⟨wid,_,hM,rfl⟩),h3⟩
 have g1:Good B c1:=by
  have hj:∀j Cr,c1.M j=some Cr→j=0∧Cr=⟨Bl E xs,ty2⟩:=by
   intro j Cr h
   have h:Am [(0,some ⟨Bl E xs,ty2⟩)] j=some Cr:=h
   unfold Am at h
   cases hq:Nat.beq 0 j with
   |true=>rw [hq] at h;exact ⟨(Nat.eq_of_beq_eq_true hq).symm,(Option.some.inj h).symm⟩
   |false=>rw [hq] at h;simp [Am] at h
  refine ⟨g.hB,fun j Cr h=> ?_,fun j Cr h=> ?_,g.K6,fun j j' Cr blk' h h' _=> ?_⟩
  ·exact ⟨(g.low wid _ hM).1,(hj j Cr h).1⟩
  ·obtain ⟨rfl,rfl⟩:=hj j Cr h
   obtain ⟨arr,vs,rest,q1,q2,q3⟩:=g.Cr wid _ hM
   exact ⟨arr,vs,rest,q1,q2,Kx (K2 hE xs) q3⟩
  ·rw [(hj j Cr h).1,(hj j' blk' h').1]
 have r0:B9 c1 (.Ek 0 [] true) v:=by
  cases hv with
  |Ga a cap ex he hm hn=>exact .Ga a cap true he hm hn
  |Ek hb hr hc hn he hm=>
   cases hr
   rename_i b o cap
   have h0:cap=0:=he rfl
   subst h0
   exact .Ga (some ⟨b,o,none⟩) 0 true (fun _=>rfl) (Nat.zero_le _) (fun h=>by cases h)
 have r1:B9 c1 (.sl 0 0 E.size xs.length xs.length false) vx:=by
  cases hvx with
  |sl ha hb hs hk hc he hm=>exact .sl (c:=c1) (id:=0) rfl hb hs hk hc (fun h=>by cases h) hm
 have ri:B9 c1 (Aa i) vi:=by
  cases hvi with
  |sc _ h=>exact .sc _ h
 refine (h.2 B c1 _ g1 (Dr.Cn (c:=c) rfl hst hgl) (fun _=>rfl) (fun j hj=>by have:j=0:=hj;omega) (.cons r0 (.cons ri (.cons r1 .nil)))).mono ?_
 rintro e w' ⟨u,m,nx',⟨k,cap,ex,rest,rfl,hk⟩,v',c2,rfl,rfl,k1,st,g2,k4,k5⟩
 have hk2:c2.M k=some ⟨Bl E l'++rest,ty⟩:=by rw [k4];exact hk
 have hlow2:=(g2.low k _ hk2).1
 have hsz:c.w.heap.size≤c2.w.heap.size:=st.size
 have hfk:=g2.lt hk2
 have hwhere:c2.f k=c.f wid∨c.w.heap.size≤c2.f k:=by
  rcases Nat.lt_or_ge (c2.f k) c.w.heap.size with hlt|hge
  ·exact .inl (own1 _ (st.own _ hlt ⟨k,_,hk2,rfl⟩))
  ·exact .inr hge
 let c':Cx:={w:=c2.w,f:=fun i=>if i=n then c2.f k else c.f i,al:=fun i=>c.al i∨i=n,M:=Uj c.M [(n,some ⟨Bl E l',ty⟩),(wid,none)],no:=c.no}
 have hM':∀i,c'.M i=if i=wid then none else if i=n then some ⟨Bl E l',ty⟩ else c.M i:=fun i=>rfl
 have hMi:∀i Cr,c'.M i=some Cr→(i=n∧Cr=⟨Bl E l',ty⟩)∨(i≠n∧i≠wid∧c.M i=some Cr):=by
  intro i Cr h
  rw [hM'] at h
  by_cases e1:i=wid
  ·rw [if_pos e1] at h;cases h
  ·rw [if_neg e1] at h
   by_cases e2:i=n
   ·rw [if_pos e2] at h;exact .inl ⟨e2,(Option.some.inj h).symm⟩
   ·rw [if_neg e2] at h;exact .inr ⟨e2,e1,h⟩
 have own':∀x,c'.own x→c.own x∨x=c2.f k:=by
  rintro x ⟨i,Cr,h1,h2⟩
  rcases hMi i Cr h1 with ⟨e,-⟩|⟨e,-,h3⟩
  ·right;simp only [c',e,if_true] at h2;exact h2.symm
  ·left;simp only [c',e,if_false] at h2;exact ⟨i,Cr,h3,h2⟩
 have stp:Step c c':=by
  refine ⟨st.os,st.tape,st.output,st.size,fun x hx ho=>st.Cr x hx (fun h=>ho (own1 x h ▸ ⟨wid,_,hM,rfl⟩)),fun x hx ho=> ?_,fun i hi=> ?_,fun i hi=> .inl hi,fun _=>Iff.rfl,st.Yf,st.drawn⟩
  ·rcases own' x ho with h|h
   ·exact h
   ·have hx':x<c.w.heap.size:=hx
    rcases hwhere with h2|h2
    ·exact ⟨wid,_,hM,by rw [h,h2]⟩
    ·omega
  ·have:i≠n:=fun h=>hn (h ▸ hi)
   simp [c',this]
 refine ⟨v',c',rfl,rfl,?_,stp,⟨Nat.le_trans g.hB hsz,fun i Cr h=> ?_,fun i Cr h=> ?_,g.K6,fun i i' Cr blk' h h' hf=> ?_⟩,fun i=>rfl,fun i h=>h,fun i h=> .inl h⟩
 ·cases k1 with
  |sl ha hb hs hk hc he hm=>
   have:=B9.sl (c:=c') (id:=n) (off:=0) (esz:=E.size) (n:=l'.length) (cap:=l'.length) (ex:=false) (.inr rfl) (by simp only [c',if_true];exact hb) hs (Nat.le_refl _) (Nat.le_trans hk hc) (fun h=>by cases h) hm
   simpa [c',uP] using this
 ·rcases hMi i Cr h with ⟨e,-⟩|⟨e,-,h3⟩
  ·simp only [c',e,if_true];exact ⟨hlow2,.inr trivial⟩
  ·simp only [c',e,if_false];exact ⟨(g.low i Cr h3).1,.inl (g.low i Cr h3).2⟩
 ·rcases hMi i Cr h with ⟨e,rfl⟩|⟨e,e2,h3⟩
  ·obtain ⟨arr,vs,rst,q1,q2,q3⟩:=g2.Cr k _ hk2
   refine ⟨arr,vs.take (Bl E l').length,vs.drop (Bl E l').length++rst,by simp only [c',e,if_true];exact q1,by rw [← List.append_assoc,List.take_append_drop];exact q2,?_⟩
   have:=q3.take (Bl E l').length
   rw [List.take_left] at this
   exact Kx (K2 hE l') this
  ·obtain ⟨arr,vs,rst,q1,q2,q3⟩:=g.Cr i Cr h3
   refine ⟨arr,vs,rst,?_,q2,q3.step stp⟩
   simp only [c',e,if_false]
   exact (st.Cr _ (Hl q1) (fun ho=>e2 (g.inj i wid Cr _ h3 hM (own1 _ ho)))).trans q1
 ·rcases hMi i Cr h with ⟨e1,-⟩|⟨e1,e2,h3⟩<;>rcases hMi i' blk' h' with ⟨e3,-⟩|⟨e3,e4,h5⟩
  ·rw [e1,e3]
  ·exfalso
   have hlt:=g.lt h5
   simp only [c',e1,e3,if_true,if_false] at hf
   rcases hwhere with h2|h2
   ·exact e4 (g.inj i' wid blk' _ h5 hM (by rw [← hf,h2]))
   ·omega
  ·exfalso
   have hlt:=g.lt h3
   simp only [c',e1,e3,if_true,if_false] at hf
   rcases hwhere with h2|h2
   ·exact e2 (g.inj i wid Cr _ h3 hM (by rw [hf,h2]))
   ·omega
  ·simp only [c',e1,e3,if_false] at hf
   exact g.inj i i' Cr blk' h3 h5 hf
def iE {α:Type} (by_:Nat) (l:List α) (i:Int) (xs:List α):Option (List α):=if 0≤i∧i≤l.length∧0<xs.length∧(l.length+xs.length)*by_≤140737488355328∧l.length+xs.length≤4611686018427387904 then some (l.take i.toNat++xs++l.drop i.toNat) else none
theorem Aay {t ti e n id off esz k C:Nat} {look:Nat→Option B5} (hu:P.underlying t=some (.slice e)):Cs P (.call ⟨.builtin .cap,#[.tmp 0],#[t]⟩) ti [.sl id off esz k C true] look n=some (Aa C,[]):=by
 show jA P t (.sl id off esz k C true)=_
 simp only [jA,hu]
theorem pG {t ti e sz by_ n id off k cap z ty:Nat} {kk:IntKind} {zs old:List AV} {look:Nat→Option B5} (hu:P.underlying t=some (.slice e)) (hti:P.underlying ti=some (.int kk)) (hz:D5 P e=some sz) (hb:Jv P e=some by_) (hze:(Gy P e).bind (fun z=>(Hc z).bind Dl)=some zs) (hzs:zs.length=sz) (h1:1≤sz)
  (ho:cellsOf look sz (.sl id off sz k cap true)=some (k,old)) (hz0:0<z) (hc:cap+1≤k+z) (hr1:(k+z)*by_≤140737488355328) (hr2:k+z≤4611686018427387904):
  Cs P (.call ⟨.builtin .append,#[.tmp 0,.tmp 1],#[t,ti]⟩) ty [.sl id off sz k cap true,Aa (z:Int)] look n=some (.sl n 0 sz (k+z) (k+z) false,[(n,some ⟨old++rep zs z,e⟩)]):=by
 show Jk P look n t ti (.sl id off sz k cap true) (Aa (z:Int))=_
 have e1:decide ((0:Int)<(z:Int))=true:=by simp;omega
 simp only [Jk,hu,hti,K8,hz,hb,hze,ho,e1,Int.toNat_natCast,Nat.ble_eq_true_of_le hc,Nat.ble_eq_true_of_le hr1,Nat.ble_eq_true_of_le hr2,hzs,Nat.beq_refl,Nat.ble_eq_true_of_le h1,Bool.true_or,Bool.and_self,cond_true]
theorem Qq {t tx ti e sz n id off k cap m:Nat} {ex:Bool} {x:AV} {xs:List AV} {b:B5} {look:Nat→Option B5} (hu:P.underlying t=some (.slice e)) (hz:D5 P e=some sz) (hx:cellsOf look sz x=some (m,xs)) (hb:look id=some b) (hlen:off+k*sz≤b.cells.length) (hcell:(xs.take (Nat.min m k*sz)).all Cq=true):
  Cs P (.call ⟨.builtin .copy,#[.tmp 0,.tmp 1],#[t,tx]⟩) ti [.sl id off sz k cap ex,x] look n=some (Aa ((Nat.min m k:Nat):Int),[(id,some ⟨Eg b.cells off (xs.take (Nat.min m k*sz)),b.ty⟩)]):=by
 show Ym P look t tx (.sl id off sz k cap ex) x=_
 simp only [Ym,hu,hz,hx,hb,Nat.ble_eq_true_of_le hlen,hcell,Nat.beq_refl,Bool.true_or,Bool.and_self,cond_true]
theorem gA {A Z X D:List AV} {p q:Nat} (hA:A.length=p) (hq:q=p+X.length) (hZ:Z.length=X.length+D.length):Eg (Eg (A++Z) p X) q D=A++X++D:=by
 subst hA hq
 unfold Eg
 have e1:(A++Z).take A.length=A:=List.take_left
 have e2:(A++Z).drop (A.length+X.length)=Z.drop X.length:=by rw [← List.drop_drop,List.drop_left]
 rw [e1,e2]
 have e3:(A++X++Z.drop X.length).take (A.length+X.length)=A++X:=by rw [← List.length_append,List.take_left]
 have e4:(A++X++Z.drop X.length).drop (A.length+X.length+D.length)=[]:=List.drop_eq_nil_of_le (by simp;omega)
 rw [e3,e4,List.append_nil]
theorem fA {A D U X:List AV} {p q:Nat} (hA:A.length=p) (hq:q=p+X.length) (hU:X.length≤U.length):∃rest,Eg (Eg (A++D++U) q D) p X=A++X++D++rest:=by
 subst hA hq
 refine ⟨(A++D++U).drop (A.length+X.length+D.length),?_⟩
 unfold Eg
 have hl:((A++D++U).take (A.length+X.length)).length=A.length+X.length:=by rw [List.length_take];simp;omega
 have e1:((A++D++U).take (A.length+X.length)++D++(A++D++U).drop (A.length+X.length+D.length)).take A.length=A:=by
  rw [List.append_assoc,List.take_append_of_le_length (by rw [hl];omega),List.take_take,Nat.min_eq_left (by omega),List.append_assoc,List.take_left]
 have e2:((A++D++U).take (A.length+X.length)++D++(A++D++U).drop (A.length+X.length+D.length)).drop (A.length+X.length)=D++(A++D++U).drop (A.length+X.length+D.length):=by
  rw [List.append_assoc]
  exact List.drop_left' hl
 rw [e1,e2,List.append_assoc (A++X)]
def aK (P:Program) (gl:Nat→Option (List AV)) (t ti e sz by_ fo:Nat) (zs:List AV) (rest:Int→Int→AV→Prop) (a0:AV) (a1:Int) (a2:AV) (m:Mem) (R:AV→Mem→Prop):Prop:=
  Bo (Cs P (.slice t (.tmp 0) (some (.tmp 1)) none none) t [a0,(AV.sc (.int .i64 a1))] (Am m) 5) fun v0=>
  Bo (Ed a2) fun v1=>
  Af v1 fun z2=>
  bif (z2==(0)) then (
  A2 R m [some a0]) else (
  Bo (Ed a0) fun v3=>
  Af v3 fun z4=>
  bif (a1==z4) then (
  Il (app (Am m) e sz by_ zs 19 a0 a2) m fun v5 m5=>
  A2 R m5 [some v5]) else (
  Bo (Cs P (.call ⟨.builtin .cap,#[.tmp 0],#[t]⟩) ti [a0] (Am m) 21) fun v6=>
  Af v6 fun z7=>
  bif (decide ((IntKind.wrap .i64 (z4+z2))>z7)) then (
  Bo (Cs P (.slice t (.tmp 0) none (some (.tmp 1)) none) t [a0,(AV.sc (.int .i64 a1))] (Am m) 25) fun v8=>
  Il (Cs P (.call ⟨.builtin .append,#[.tmp 0,.tmp 1],#[t,ti]⟩) t [v8,(AV.sc (.int .i64 (IntKind.wrap .i64 ((IntKind.wrap .i64 (z4+z2))-a1))))] (Am m) 31) m fun v9 m9=>
  Bo (Cs P (.slice t (.tmp 0) (some (.tmp 1)) none none) t [v9,(AV.sc (.int .i64 a1))] (Am m9) 35) fun v10=>
  Il (Cs P (.call ⟨.builtin .copy,#[.tmp 0,.tmp 1],#[t,t]⟩) ti [v10,a2] (Am m9) 37) m9 fun v11 m11=>
  Af v11 fun z12=>
  J4 (Cs P (.slice t (.tmp 0) (some (.tmp 1)) none none) t [v9,(AV.sc (.int .i64 (IntKind.wrap .i64 (a1+z2))))] (Dw m11 (Bv v9++(Bv (AV.sc (.int .i64 (IntKind.wrap .i64 (a1+z2))))++([])))) 42) fun v13 d13=>
  J4 (Cs P (.slice t (.tmp 0) (some (.tmp 1)) none none) t [a0,(AV.sc (.int .i64 a1))] (Dw (Ag m11 d13) (Bv a0++(Bv (AV.sc (.int .i64 a1))++([])))) 45) fun v14 d14=>
  J4 (Cs P (.call ⟨.builtin .copy,#[.tmp 0,.tmp 1],#[t,t]⟩) ti [v13,v14] (Dw (Ag (Ag m11 d13) d14) (Bv v13++(Bv v14++([])))) 46) fun v15 d15=>
  Af v15 fun z16=>
  Jj (F4 [0,0,0,6,15,0,0,96,255] [⟨[],[]⟩,⟨[],[]⟩,⟨[],[]⟩,⟨[],[]⟩,⟨d13,(Bv v9++(Bv (AV.sc (.int .i64 (IntKind.wrap .i64 (a1+z2))))++([])))⟩,⟨[],[]⟩,⟨[],[]⟩,⟨d14,(Bv a0++(Bv (AV.sc (.int .i64 a1))++([])))⟩,⟨d15,(Bv v13++(Bv v14++([])))⟩]) (A2 R (Ag (Ag (Ag m11 d13) d14) d15) [some v9])) else (
  Bo (Cs P (.slice t (.tmp 0) none (some (.tmp 1)) none) t [a0,(AV.sc (.int .i64 (IntKind.wrap .i64 (z4+z2))))] (Am m) 27) fun v17=>
  Bo (Cs P (.slice t (.tmp 0) (some (.tmp 1)) none none) t [v17,(AV.sc (.int .i64 (IntKind.wrap .i64 (a1+z2))))] (Am m) 34) fun v18=>
  Bd P gl m fo [a2,v18] fun v19=>
  Hr v19 fun b20=>
  bif (!b20) then (
  J4 (Cs P (.slice t (.tmp 0) (some (.tmp 1)) none none) t [v17,(AV.sc (.int .i64 (IntKind.wrap .i64 (a1+z2))))] (Dw m (Bv v17++(Bv (AV.sc (.int .i64 (IntKind.wrap .i64 (a1+z2))))++([])))) 104) fun v21 d21=>
  J4 (Cs P (.slice t (.tmp 0) (some (.tmp 1)) none none) t [v17,(AV.sc (.int .i64 a1))] (Dw (Ag m d21) (Bv v17++(Bv (AV.sc (.int .i64 a1))++([])))) 107) fun v22 d22=>
  J4 (Cs P (.call ⟨.builtin .copy,#[.tmp 0,.tmp 1],#[t,t]⟩) ti [v21,v22] (Dw (Ag (Ag m d21) d22) (Bv v21++(Bv v22++([])))) 108) fun v23 d23=>
  Af v23 fun z24=>
  Jj (F4 [0,0,0,6,15,0,0,96,255] [⟨[],[]⟩,⟨[],[]⟩,⟨[],[]⟩,⟨[],[]⟩,⟨d21,(Bv v17++(Bv (AV.sc (.int .i64 (IntKind.wrap .i64 (a1+z2))))++([])))⟩,⟨[],[]⟩,⟨[],[]⟩,⟨d22,(Bv v17++(Bv (AV.sc (.int .i64 a1))++([])))⟩,⟨d23,(Bv v21++(Bv v22++([])))⟩]) (Bo (Cs P (.slice t (.tmp 0) (some (.tmp 1)) none none) t [v17,(AV.sc (.int .i64 a1))] (Am (Ag (Ag (Ag m d21) d22) d23)) 111) fun v25=>
  Il (Cs P (.call ⟨.builtin .copy,#[.tmp 0,.tmp 1],#[t,t]⟩) ti [v25,a2] (Am (Ag (Ag (Ag m d21) d22) d23)) 113) (Ag (Ag (Ag m d21) d22) d23) fun v26 m26=>
  Af v26 fun z27=>
  A2 R m26 [some v17])) else (rest z2 z4 v17))))
theorem gR {f t ti e sz by_ ty2 fo to_ tr nt:Nat} {kk:IntKind} {zs:List AV} {l xs:List α} {i C:Nat} (hu:P.underlying t=some (.slice e)) (hti:P.underlying ti=some (.int kk)) (hz:D5 P e=some sz) (hby:Jv P e=some by_) (hs:E.size=sz) (hzl:zs.length=sz) (hze:(Gy P e).bind (fun z=>(Hc z).bind Dl)=some zs) (hfo:eR P fo to_ tr)
  (hC:l.length≤C) (hCm:C≤maxLen) (hl:l≠[]) (hx:xs≠[]) (hi:i≤l.length) (hr1:(l.length+xs.length)*by_≤140737488355328) (hr2:l.length+xs.length≤4611686018427387904)
  (R:AV→Mem→Prop) (hR:∀u m,U1 E e (l.take i++xs++l.drop i) u m→R u m) (m:Mem) (hm:m=[(0,some ⟨Bl E l++List.replicate ((C-l.length)*E.size) .E9,e⟩),(1,some ⟨Bl E xs,ty2⟩)]) (a0:AV) (ha0:a0=.sl 0 0 E.size l.length C true) (a1:Int) (ha1:a1=(i:Int)) (a2:AV) (ha2:a2=.sl 1 0 E.size xs.length xs.length false) (rest:Int→Int→AV→Prop):
  aK P gl t ti e sz by_ fo zs rest a0 a1 a2 m R:=by
 subst hs hm ha0 ha1 ha2
 unfold aK
 have hn0:l.length≠0:=fun h=>hl (List.eq_nil_of_length_eq_zero h)
 have hm0:xs.length≠0:=fun h=>hx (List.eq_nil_of_length_eq_zero h)
 have hp:=E.pos
 have hel:(Bl E l).length=l.length*E.size:=Cm l
 have hex:(Bl E xs).length=xs.length*E.size:=Cm xs
 have hU:(C-l.length)*E.size=C*E.size-l.length*E.size:=Nat.sub_mul _ _ _
 have hCE:l.length*E.size≤C*E.size:=Nat.mul_le_mul_right _ hC
 have hbl:(Bl E l++List.replicate ((C-l.length)*E.size) AV.E9).length=C*E.size:=by rw [List.length_append,List.length_replicate,hel,hU];omega
 have hta:(Bl E (l.take i)).length=i*E.size:=by rw [Cm,List.length_take,Nat.min_eq_left hi]
 have hda:(Bl E (l.drop i)).length=(l.length-i)*E.size:=by rw [Cm,List.length_drop]
 have htd:Bl E l=Bl E (l.take i)++Bl E (l.drop i):=by rw [← E4,List.take_append_drop]
 have hiE:i*E.size≤l.length*E.size:=Nat.mul_le_mul_right _ hi
 have s3:=fun (yt ty n:Nat) (look:Nat→Option B5) (id k cap off:Nat) (ex:Bool) (x y z:AV)=>Sm (P:=P) (look:=look) (yt:=yt) (ty:=ty) (n:=n) hu hz (id:=id) (off:=off) (esz:=E.size) (k:=k) (cap:=cap) (ex:=ex) (x:=x) (y:=y) (z:=z)
 refine Cj ((s3 0 t 5 _ 0 l.length C 0 true (Aa (i:Int)) .E9 .E9).2.2.1.trans (Ho (H8 (a:=i)) (hi:=l.length) rfl (mx:=C) rfl hi hC (Nat.le_refl _) rfl)) ?_
 refine Cj (v:=Aa xs.length) rfl ?_
 refine Ai ?_
 rw [show (((xs.length:Nat):Int)==0)=false from beq_eq_false_iff_ne.2 (by omega),cond_false]
 refine Cj (v:=Aa l.length) rfl ?_
 refine Ai ?_
 have hxc:∀look:Nat→Option B5,look 1=some ⟨Bl E xs,ty2⟩→cellsOf look E.size (.sl 1 0 E.size xs.length xs.length false)=some (xs.length,Bl E xs):=fun look h=>K1 rfl rfl h
 have w1:IntKind.wrap .i64 ((l.length:Int)+(xs.length:Int))=((l.length+xs.length:Nat):Int):=by rw [wrap64 (by omega) (by omega)];omega
 have w2:IntKind.wrap .i64 ((i:Int)+(xs.length:Int))=((i+xs.length:Nat):Int):=by rw [wrap64 (by omega) (by omega)];omega
 rcases Nat.eq_or_lt_of_le hi with hin|hin
 ·
  rw [show (((i:Nat):Int)==((l.length:Nat):Int))=true from beq_iff_eq.2 (by omega),cond_true]
  have hall:l.take i++xs++l.drop i=l++xs:=by subst hin;rw [List.take_length,List.drop_length,List.append_nil]
  have hxm:=hxc (Am [(0,some ⟨Bl E l++List.replicate ((C-l.length)*E.size) .E9,e⟩),(1,some ⟨Bl E xs,ty2⟩)]) rfl
  have hc0:cellsOf (Am [(0,some ⟨Bl E l++List.replicate ((C-l.length)*E.size) .E9,e⟩),(1,some ⟨Bl E xs,ty2⟩)]) E.size (.sl 0 0 E.size l.length C true)=some (l.length,Bl E l):=by
   simp only [cellsOf,Am,Nat.beq_refl,cond_true,Bool.and_true,hbl,List.drop_zero]
   rw [Nat.ble_eq_true_of_le (by omega),cond_true,← hel,List.take_left]
  rcases Nat.lt_or_ge C (l.length+xs.length) with hroom|hroom
  ·refine Dv (v:=.sl 19 0 E.size (l.length+xs.length) (l.length+xs.length) false) (d:=[(19,some ⟨Bl E l++Bl E xs,e⟩)]) ?_ ?_
   ·unfold app
    simp only [hxm,Hj hm0,cond_false,hc0,Nat.ble_eq_true_of_le hr1,Nat.ble_eq_true_of_le hr2,hzl,Nat.beq_refl,Nat.ble_eq_true_of_le hp,Ff,hex,hel,Bool.true_or,Bool.and_self,cond_true]
    rw [show Nat.ble (l.length+xs.length) C=false from by cases h:Nat.ble (l.length+xs.length) C with|false=>rfl|true=>(have:=Nat.le_of_ble_eq_true h;omega)]
    rfl
   ·refine hR _ _ ⟨19,l.length+xs.length,false,[],?_,?_⟩
    ·rw [hall,List.length_append]
    ·rw [hall,E4,List.append_nil];rfl
  ·refine Dv (yX (m:=xs.length) (hxc _ rfl) hm0 hc0 (b:=⟨Bl E l++List.replicate ((C-l.length)*E.size) .E9,e⟩) rfl hroom (by show _≤(Bl E l++_).length;rw [hbl,Nat.zero_add];exact Nat.mul_le_mul_right _ hroom) hzl hp hex hel (Ff _) hr1 hr2) ?_
   refine hR _ _ ⟨0,C,true,(Bl E l++List.replicate ((C-l.length)*E.size) AV.E9).drop (0+l.length*E.size+(Bl E xs).length),?_,?_⟩
   ·rw [hall,List.length_append]
   ·rw [hall,E4]
    show some (⟨Eg (Bl E l++List.replicate ((C-l.length)*E.size) .E9) (0+l.length*E.size) (Bl E xs),e⟩:B5)=_
    unfold Eg
    rw [Nat.zero_add,← hel,List.take_left]
 rw [show (((i:Nat):Int)==((l.length:Nat):Int))=false from beq_eq_false_iff_ne.2 (by omega),cond_false]
 refine Cj (Aay hu) ?_
 refine Ai ?_
 rw [w1,w2]
 have hmi:(l.length+xs.length)*E.size=l.length*E.size+xs.length*E.size:=Nat.add_mul _ _ _
 have him:(i+xs.length)*E.size=i*E.size+xs.length*E.size:=Nat.add_mul _ _ _
 have hli:(l.length-i)*E.size=l.length*E.size-i*E.size:=Nat.sub_mul _ _ _
 rcases Nat.lt_or_ge C (l.length+xs.length) with hroom|hroom
 ·
  rw [show decide ((((l.length+xs.length:Nat):Int))>(C:Int))=true from decide_eq_true (by omega),cond_true]
  have w3:IntKind.wrap .i64 (((l.length+xs.length:Nat):Int)-(i:Int))=((l.length+xs.length-i:Nat):Int):=by rw [wrap64 (by omega) (by omega)];omega
  rw [w3]
  refine Cj ((s3 0 t 25 _ 0 l.length C 0 true (Aa (i:Int)) .E9 .E9).2.1.trans (Ho (lo:=0) rfl (H8 (a:=i)) (mx:=C) rfl (Nat.zero_le _) (by omega) (Nat.le_refl _) rfl)) ?_
  rw [Hj (show 0≠C by omega),cond_false]
  have hc0:cellsOf (Am [(0,some ⟨Bl E l++List.replicate ((C-l.length)*E.size) .E9,e⟩),(1,some ⟨Bl E xs,ty2⟩)]) E.size (.sl 0 (0+0*E.size) E.size (i-0) (C-0) true)=some (i-0,Bl E (l.take i)):=by
   simp only [cellsOf,Am,Nat.beq_refl,cond_true,Bool.and_true,hbl,Nat.zero_mul,Nat.add_zero,List.drop_zero,Nat.sub_zero]
   rw [Nat.ble_eq_true_of_le (by omega),cond_true,List.take_append_of_le_length (by omega),hT]
  refine Dv (pG (z:=l.length+xs.length-i) hu hti hz hby hze hzl hp hc0 (by omega) (by omega) (Nat.le_trans (Nat.mul_le_mul_right _ (by omega)) hr1) (by omega)) ?_
  have hk:i-0+(l.length+xs.length-i)=l.length+xs.length:=by omega
  rw [hk]
  refine Cj ((s3 0 t 35 _ 31 (l.length+xs.length) (l.length+xs.length) 0 false (Aa (i:Int)) .E9 .E9).2.2.1.trans (Ho (H8 (a:=i)) (hi:=l.length+xs.length) rfl (mx:=l.length+xs.length) rfl (by omega) (Nat.le_refl _) (Nat.le_refl _) rfl)) ?_
  rw [Hj (show i≠l.length+xs.length by omega),cond_false]
  have hrl:(rep zs (l.length+xs.length-i)).length=(l.length+xs.length-i)*E.size:=Vq hzl _
  have hrl2:(l.length+xs.length-i)*E.size=l.length*E.size+xs.length*E.size-i*E.size:=by rw [Nat.sub_mul,hmi]
  have hmin1:Nat.min xs.length (l.length+xs.length-i)=xs.length:=Nat.min_eq_left (by omega)
  refine Dv (Qq (m:=xs.length) (b:=⟨Bl E (l.take i)++rep zs (l.length+xs.length-i),e⟩) hu hz (hxc _ rfl) rfl (by
   show _≤(Bl E (l.take i)++rep zs _).length
   rw [List.length_append,hta,hrl,hrl2];omega) (by rw [hmin1,← hex,List.take_length];exact Ff _)) ?_
  rw [hmin1,← hex,List.take_length]
  refine Ai ?_
  refine Gk ((s3 0 t 42 _ 31 (l.length+xs.length) (l.length+xs.length) 0 false (Aa ((i+xs.length:Nat):Int)) .E9 .E9).2.2.1.trans (Ho (H8 (a:=i+xs.length)) (hi:=l.length+xs.length) rfl (mx:=l.length+xs.length) rfl (by omega) (Nat.le_refl _) (Nat.le_refl _) rfl)) ?_
  rw [Hj (show i+xs.length≠l.length+xs.length by omega),cond_false]
  refine Gk ((s3 0 t 45 _ 0 l.length C 0 true (Aa (i:Int)) .E9 .E9).2.2.1.trans (Ho (H8 (a:=i)) (hi:=l.length) rfl (mx:=C) rfl (by omega) (by omega) (Nat.le_refl _) rfl)) ?_
  rw [Hj (show i≠C by omega),cond_false]
  have hc1:∀look:Nat→Option B5,look 0=some ⟨Bl E l++List.replicate ((C-l.length)*E.size) .E9,e⟩→cellsOf look E.size (.sl 0 (0+i*E.size) E.size (l.length-i) (C-i) true)=some (l.length-i,Bl E (l.drop i)):=by
   intro look h
   simp only [cellsOf,h,Nat.beq_refl,cond_true,Bool.and_true,hbl,Nat.zero_add]
   rw [Nat.ble_eq_true_of_le (by rw [hli];omega),cond_true,List.drop_append_of_le_length (by omega),Mj,List.take_append_of_le_length (by omega),← hda,List.take_length]
  have hmin2:Nat.min (l.length-i) (l.length+xs.length-(i+xs.length))=l.length-i:=Nat.min_eq_left (by omega)
  refine Gk (Qq (m:=l.length-i) (b:=⟨Eg (Bl E (l.take i)++rep zs (l.length+xs.length-i)) (0+i*E.size) (Bl E xs),e⟩) hu hz (hc1 _ rfl) rfl (by
   have:(Eg (Bl E (l.take i)++rep zs (l.length+xs.length-i)) (0+i*E.size) (Bl E xs)).length=(l.length+xs.length)*E.size:=by
    unfold Eg
    simp only [List.length_append,List.length_take,List.length_drop,hta,hrl,hrl2,hex,hmi]
    omega
   show _≤(Eg _ _ _).length
   rw [this,hmi,him,show l.length+xs.length-(i+xs.length)=l.length-i by omega,hli];omega) (by rw [hmin2,← hda,List.take_length];exact Ff _)) ?_
  rw [hmin2,← hda,List.take_length]
  refine Ai ?_
  refine Ei (by kernel_rfl) ?_
  refine hR _ _ ⟨31,l.length+xs.length,false,[],?_,?_⟩
  ·rw [List.length_append,List.length_append,List.length_take,List.length_drop,show min i l.length+xs.length+(l.length-i)=l.length+xs.length by omega]
  ·show some (⟨Eg (Eg (Bl E (l.take i)++rep zs (l.length+xs.length-i)) (0+i*E.size) (Bl E xs)) (0+(i+xs.length)*E.size) (Bl E (l.drop i)),e⟩:B5)=_
   rw [gA (p:=0+i*E.size) (by rw [hta,Nat.zero_add]) (by rw [hex,him];omega) (by rw [hrl,hrl2,hex,hda,hli];omega),E4,E4,List.append_nil]
 ·
  rw [show decide ((((l.length+xs.length:Nat):Int))>(C:Int))=false from decide_eq_false (by omega),cond_false]
  have hroomE:l.length*E.size+xs.length*E.size≤C*E.size:=by rw [← hmi];exact Nat.mul_le_mul_right _ hroom
  refine Cj ((s3 0 t 27 _ 0 l.length C 0 true (Aa ((l.length+xs.length:Nat):Int)) .E9 .E9).2.1.trans (Ho (lo:=0) rfl (H8 (a:=l.length+xs.length)) (mx:=C) rfl (Nat.zero_le _) hroom (Nat.le_refl _) rfl)) ?_
  rw [Hj (show 0≠C by omega),cond_false]
  simp only [Nat.zero_mul,Nat.add_zero,Nat.sub_zero,Option.isSome_none,Bool.or_false]
  refine Cj ((s3 0 t 34 _ 0 (l.length+xs.length) C 0 true (Aa ((i+xs.length:Nat):Int)) .E9 .E9).2.2.1.trans (Ho (H8 (a:=i+xs.length)) (hi:=l.length+xs.length) rfl (mx:=C) rfl (by omega) hroom (Nat.le_refl _) rfl)) ?_
  rw [Hj (show i+xs.length≠C by omega),cond_false]
  refine ⟨.sc (.bool false),.inr (.inl ⟨to_,tr,1,0,E.size,xs.length,xs.length,0,0+(i+xs.length)*E.size,E.size,l.length+xs.length-(i+xs.length),C-(i+xs.length),false,true||false,_,_,hfo,rfl,by decide,rfl,rfl,?_,rfl⟩),?_⟩
  ·intro h
   have h:Bl E l++List.replicate ((C-l.length)*E.size) AV.E9=[]:=h
   have:(Bl E l++List.replicate ((C-l.length)*E.size) AV.E9).length=0:=by rw [h];rfl
   rw [hbl] at this
   have:=Nat.mul_le_mul_right E.size (show 1≤l.length by omega)
   omega
  refine Eh ?_
  rw [Bool.not_false,cond_true]
  refine Gk ((s3 0 t 104 _ 0 (l.length+xs.length) C 0 true (Aa ((i+xs.length:Nat):Int)) .E9 .E9).2.2.1.trans (Ho (H8 (a:=i+xs.length)) (hi:=l.length+xs.length) rfl (mx:=C) rfl (by omega) hroom (Nat.le_refl _) rfl)) ?_
  rw [Hj (show i+xs.length≠C by omega),cond_false]
  refine Gk ((s3 0 t 107 _ 0 (l.length+xs.length) C 0 true (Aa (i:Int)) .E9 .E9).2.2.1.trans (Ho (H8 (a:=i)) (hi:=l.length+xs.length) rfl (mx:=C) rfl (by omega) hroom (Nat.le_refl _) rfl)) ?_
  rw [Hj (show i≠C by omega),cond_false]
  have hsub:(l.length+xs.length-i)*E.size=l.length*E.size+xs.length*E.size-i*E.size:=by rw [Nat.sub_mul,hmi]
  have hc1:∀look:Nat→Option B5,look 0=some ⟨Bl E l++List.replicate ((C-l.length)*E.size) .E9,e⟩→cellsOf look E.size (.sl 0 (0+i*E.size) E.size (l.length+xs.length-i) (C-i) true)=some (l.length+xs.length-i,((Bl E l++List.replicate ((C-l.length)*E.size) AV.E9).drop (i*E.size)).take ((l.length+xs.length-i)*E.size)):=by
   intro look h
   simp only [cellsOf,h,Nat.beq_refl,cond_true,Bool.and_true,hbl,Nat.zero_add]
   rw [Nat.ble_eq_true_of_le (by rw [hsub];omega),cond_true]
  have hmin2:Nat.min (l.length+xs.length-i) (l.length+xs.length-(i+xs.length))=l.length-i:=by
   rw [show l.length+xs.length-(i+xs.length)=l.length-i by omega];exact Nat.min_eq_right (by omega)
  have hsrc:(((Bl E l++List.replicate ((C-l.length)*E.size) AV.E9).drop (i*E.size)).take ((l.length+xs.length-i)*E.size)).take ((l.length-i)*E.size)=Bl E (l.drop i):=by
   rw [List.take_take,Nat.min_eq_left (Nat.mul_le_mul_right _ (by omega)),List.drop_append_of_le_length (by omega),Mj,List.take_append_of_le_length (by omega),← hda,List.take_length]
  refine Gk (Qq (m:=l.length+xs.length-i) (b:=⟨Bl E l++List.replicate ((C-l.length)*E.size) .E9,e⟩) hu hz (hc1 _ rfl) rfl (by
   show _≤(Bl E l++_).length
   rw [hbl,show l.length+xs.length-(i+xs.length)=l.length-i by omega,hli,him];omega) (by rw [hmin2,hsrc];exact Ff _)) ?_
  rw [hmin2,hsrc]
  refine Ai ?_
  refine Ei (by kernel_rfl) ?_
  refine Cj ((s3 0 t 111 _ 0 (l.length+xs.length) C 0 true (Aa (i:Int)) .E9 .E9).2.2.1.trans (Ho (H8 (a:=i)) (hi:=l.length+xs.length) rfl (mx:=C) rfl (by omega) hroom (Nat.le_refl _) rfl)) ?_
  rw [Hj (show i≠C by omega),cond_false]
  have hmin1:Nat.min xs.length (l.length+xs.length-i)=xs.length:=Nat.min_eq_left (by omega)
  refine Dv (Qq (m:=xs.length) (b:=⟨Eg (Bl E l++List.replicate ((C-l.length)*E.size) .E9) (0+(i+xs.length)*E.size) (Bl E (l.drop i)),e⟩) hu hz (hxc _ rfl) rfl (by
   have:(Eg (Bl E l++List.replicate ((C-l.length)*E.size) .E9) (0+(i+xs.length)*E.size) (Bl E (l.drop i))).length=C*E.size:=by
    unfold Eg
    simp only [List.length_append,List.length_take,List.length_drop,List.length_replicate,hel,hda,hU,hli,him]
    omega
   show _≤(Eg _ _ _).length
   rw [this,hsub];omega) (by rw [hmin1,← hex,List.take_length];exact Ff _)) ?_
  rw [hmin1,← hex,List.take_length]
  refine Ai ?_
  obtain ⟨rest,hrest⟩:=fA (A:=Bl E (l.take i)) (D:=Bl E (l.drop i)) (U:=List.replicate ((C-l.length)*E.size) AV.E9) (X:=Bl E xs) (p:=0+i*E.size) (q:=0+(i+xs.length)*E.size) (by rw [hta,Nat.zero_add]) (by rw [hex,him];omega) (by rw [hex,List.length_replicate,hU];omega)
  refine hR _ _ ⟨0,C,true,rest,?_,?_⟩
  ·rw [List.length_append,List.length_append,List.length_take,List.length_drop,show min i l.length+xs.length+(l.length-i)=l.length+xs.length by omega]
  ·show some (⟨Eg (Eg (Bl E l++List.replicate ((C-l.length)*E.size) .E9) (0+(i+xs.length)*E.size) (Bl E (l.drop i))) (0+i*E.size) (Bl E xs),e⟩:B5)=_
   rw [htd,hrest,E4,E4]
def Wp (P:Program) (t e sz by_:Nat) (zs:List AV) (rest:Int→Int→Prop) (a0:AV) (a1:Int) (a2:AV) (m:Mem) (R:AV→Mem→Prop):Prop:=
  Bo (Cs P (.slice t (.tmp 0) (some (.tmp 1)) none none) t [a0,(AV.sc (.int .i64 a1))] (Am m) 4) fun v0=>
  Bo (Ed a2) fun v1=>
  Af v1 fun z2=>
  bif (z2==(0)) then (
  A2 R m [some a0]) else (
  Bo (Ed a0) fun v3=>
  Af v3 fun z4=>
  bif (a1==z4) then (
  Il (app (Am m) e sz by_ zs 18 a0 a2) m fun v5 m5=>
  A2 R m5 [some v5]) else (rest z2 z4))
theorem Sv {t e sz by_ ty2:Nat} {zs:List AV} {xs:List α} (hu:P.underlying t=some (.slice e)) (hz:D5 P e=some sz) (hs:E.size=sz) (hzl:zs.length=sz) (hx:xs≠[]) (hr1:(0+xs.length)*by_≤140737488355328) (hr2:0+xs.length≤4611686018427387904)
  (R:AV→Mem→Prop) (hR:∀u m,U1 E e xs u m→R u m) (m:Mem) (hm:m=[(0,some ⟨Bl E xs,ty2⟩)]) (a0:AV) (ha0:a0=.Ek 0 [] true) (a1:Int) (ha1:a1=0) (a2:AV) (ha2:a2=.sl 0 0 E.size xs.length xs.length false) (rest:Int→Int→Prop):
  Wp P t e sz by_ zs rest a0 a1 a2 m R:=by
 subst hs hm ha0 ha1 ha2
 unfold Wp
 have hm0:xs.length≠0:=fun h=>hx (List.eq_nil_of_length_eq_zero h)
 refine Cj (v:=.Ek 0 [] false) ?_ ?_
 ·refine ((gZ (yt:=0) (a:=Aa 0) (b:=.E9) hu hz).1).trans ?_
  simp only [O3,show Lz 0 (some (Aa 0))=some 0 from rfl,show Lz 0 (none:Option AV)=some 0 from rfl,Nat.zero_mul,List.length_nil,List.drop_zero,List.take_zero,Nat.sub_self,Nat.zero_mul]
  rfl
 refine Cj (v:=Aa xs.length) rfl ?_
 refine Ai ?_
 rw [show (((xs.length:Nat):Int)==0)=false from beq_eq_false_iff_ne.2 (by omega),cond_false]
 refine Cj (v:=Aa ((0:Nat):Int)) rfl ?_
 refine Ai ?_
 rw [show ((0:Int)==((0:Nat):Int))=true from rfl,cond_true]
 have hxc:cellsOf (Am [(0,some ⟨Bl E xs,ty2⟩)]) E.size (.sl 0 0 E.size xs.length xs.length false)=some (xs.length,Bl E xs):=K1 rfl rfl rfl
 have hc0:cellsOf (Am [(0,some ⟨Bl E xs,ty2⟩)]) E.size (.Ek 0 [] true)=some (0,[]):=by
  simp only [cellsOf,Nat.zero_mul,List.length_nil,Nat.beq_refl,cond_true]
 refine Dv (v:=.sl 18 0 E.size (0+xs.length) (0+xs.length) false) (d:=[(18,some ⟨[]++Bl E xs,e⟩)]) ?_ ?_
 ·unfold app
  simp only [hxc,Hj hm0,cond_false,hc0,Nat.ble_eq_true_of_le hr1,Nat.ble_eq_true_of_le hr2,hzl,Nat.beq_refl,Nat.ble_eq_true_of_le E.pos,Ff,Cm,List.length_nil,Nat.zero_mul,Bool.true_or,Bool.and_self,cond_true]
 ·refine hR _ _ ⟨18,0+xs.length,false,[],by rw [Nat.zero_add],?_⟩
  rw [List.append_nil,List.nil_append];rfl
theorem Abp {n id wid ty ty2 by_:Nat} {look:Nat→Option B5} {f:FuncId} {l l0 xs xs0 y:List α} {i:Int} (hE:ScE E) (hl:l0.length=l.length) (hb:look id=C7 E ty l) (hl2:xs0.length=xs.length) (hb2:look wid=some ⟨Bl E xs,ty2⟩) (hid:id≠wid) (h:iE by_ l i xs=some y)
  (hF:∀(C k:Nat),l.length≤C→C≤maxLen→l≠[]→xs≠[]→k≤l.length→(l.length+xs.length)*by_≤140737488355328→l.length+xs.length≤4611686018427387904→Rb P gl [(0,some ⟨Bl E l++List.replicate ((C-l.length)*E.size) .E9,ty⟩),(1,some ⟨Bl E xs,ty2⟩)] 2 f [.sl 0 0 E.size l.length C true,Aa (k:Int),.sl 1 0 E.size xs.length xs.length false] (U1 E ty (l.take k++xs++l.drop k)))
  (hN:xs≠[]→(0+xs.length)*by_≤140737488355328→0+xs.length≤4611686018427387904→Rb P gl [(0,some ⟨Bl E xs,ty2⟩)] 1 f [.Ek 0 [] true,Aa 0,.sl 0 0 E.size xs.length xs.length false] (U1 E ty xs)):
  E3 P gl look n f [B7 E id l0,Aa i,Ik E wid xs0] (B7 E n y) [(n,C7 E ty y),(wid,none),(id,none)]:=by
 unfold iE at h
 split at h
 ·rename_i hc
  obtain ⟨h1,h2,h3,h4,h5⟩:=hc
  have hy:=Option.some.inj h
  obtain ⟨k,rfl⟩:=Int.eq_ofNat_of_zero_le h1
  rw [Int.toNat_natCast] at hy
  have hx:xs≠[]:=List.length_pos_iff.1 h3
  have hyne:y≠[]:=by
   intro e
   have:y.length=0:=by rw [e];rfl
   rw [← hy] at this
   simp only [List.length_append] at this
   omega
  rw [Hi hyne,E0 hyne]
  cases l with
  |nil=>
   have hl0:l0=[]:=List.eq_nil_of_length_eq_zero hl
   subst hl0
   simp only [List.length_nil] at h2 h4 h5
   have hk:k=0:=by omega
   subst hk
   have hxy:y=xs:=by rw [← hy];simp
   subst hxy
   exact Z5 id (kW (i:=0) hE hl2 hb2 (hN hx h4 h5))
  |cons z l=>
   have hne:z::l≠[]:=by simp
   subst hy
   exact mP hE hl hne hb hl2 hx hb2 hid (by unfold maxLen;omega) (fun C h6 h7=>hF C k h6 h7 hne hx (by omega) h4 h5)
 ·cases h
def Aia (E:En α) (id:Nat) (l:List α):AV:=match l with
 |[]=> .Ek 0 [] false
 |_::_=> .sl id 0 E.size l.length l.length false
end
end Go.Proofs.YtmhnnmfcjdnlhaaGreatDoor
