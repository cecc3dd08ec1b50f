/- A part. -/
import Derived.Test.YtkdodbfnocdkdaaGreatDoorPG
import Derived.KernelRfl
set_option linter.unusedVariables false
set_option linter.unusedSimpArgs false
namespace Go.Proofs.YtkdodbfnocdkdaaGreatDoor
open Go.RowKit
section
variable {α:Type} {E:En α} {P:Program} {K:Kq} {gl:Nat→Option (List AV)}
theorem iJ {look:Nat→Option Be} {n:Nat} {f:FuncId} {args:List AV} {v:AV} {d:Wr} (id:Nat) (h:Dq P gl look n f args v d):Dq P gl look n f args v (d++[(id,none)]):=by
 refine ⟨h.1,fun B c vals g hgl hn hlk hr=>(h.2 B c vals g hgl hn hlk hr).mono ?_⟩
 rintro e w' ⟨v',c',h1,h2,h3,h4,h5,h6,h7,h8⟩
 refine ⟨v',c'.drop id,h1,h2,h3.step (K8 c' id),h4.trans (K8 c' id),Xe h5 id,fun k=> ?_,h7,h8⟩
 have:∀(d:Wr) (M:Nat→Option Be),Wn M (d++[(id,none)]) k=if k=id then none else Wn M d k:=by
  intro d
  induction d with
  |nil=>intro M;rfl
  |cons p d ih=>intro M;obtain ⟨i,r⟩:=p;exact ih _
 rw [this,← h6]
 rfl
theorem aZ {b0 b1 By:Be} {j:Nat} (h:Al [(0,some b0),(1,some b1)] j=some By):(j=0∧By=b0)∨(j=1∧By=b1):=by
 match j,h with
 |0,h=>exact .inl ⟨rfl,(Option.some.inj h).symm⟩
 |1,h=>exact .inr ⟨rfl,(Option.some.inj h).symm⟩
 |j+2,h=>simp [Al,Nat.beq] at h
theorem cP {c:Cx}:∀(vs:List Value),Bm c (List.replicate vs.length .Es) vs
 |[]=> .nil
 |v::vs=> .cons (.Es v) (cP vs)
theorem yH {n id wid ty ty2:Nat} {look:Nat→Option Be} {f:FuncId} {l l0 l' xs xs0:List α} {i:Int} (hE:ScE E) (hl:l0.length=l.length) (hne:l≠[]) (hb:look id=Cn E ty l) (hl2:xs0.length=xs.length) (hne2:xs≠[]) (hb2:look wid=some ⟨A0 E xs,ty2⟩) (hid:id≠wid) (hle:l.length≤maxLen)
  (h:∀C,l.length≤C→C≤maxLen→Pb P gl [(0,some ⟨A0 E l++List.replicate ((C-l.length)*E.size) .Es,ty⟩),(1,some ⟨A0 E xs,ty2⟩)] 2 f [.sl 0 0 E.size l.length C true,Aa i,.sl 1 0 E.size xs.length xs.length false] (O1 E ty l')):
  Dq P gl look n f [Bh E id l0,Aa i,Hk E wid xs0] (Nh E n l') [(n,some ⟨A0 E l',ty⟩),(wid,none),(id,none)]:=by
 refine ⟨(h l.length (Nat.le_refl _) hle).1,fun B c vals g hgl hn hlk hr=> ?_⟩
 have hl0:l0≠[]:=by rintro rfl;exact hne (List.eq_nil_of_length_eq_zero hl.symm)
 rw [Fj hl0,hl,Hk,hl2] at hr
 rw [C7 hne] at hb
 have hM:=hlk id _ hb
 have hM2:=hlk wid _ hb2
 have hfid:=g.lt hM
 have hfid2:=g.lt hM2
 have hidn:id≠n:=fun e=>hn (e ▸ (g.low id _ hM).2)
 have hwn:wid≠n:=fun e=>hn (e ▸ (g.low wid _ hM2).2)
 have hff:c.f id≠c.f wid:=fun e=>hid (g.inj id wid _ _ hM hM2 e)
 cases hr with
 |cons hv hr=>
 cases hr with
 |cons hvi hr=>
 cases hr with
 |cons hvx hr=>
 cases hr with
 |nil=>
 rename_i v vi vx
 cases hv with
 |sl ha hbb hs hk hc he hm=>
 rename_i C arr T
 obtain ⟨arr0,vs,rest,q1,q2,q3⟩:=g.By id _ hM
 rw [q1] at hbb
 simp only [Option.some.injEq,Obj.cells.injEq] at hbb
 obtain ⟨rfl,-⟩:=hbb
 have hvs:vs.length=l.length*E.size:=by rw [← q3.length,Br]
 have hrest:(C-l.length)*E.size≤rest.length:=by
  have h1:arr0.toList.length=(vs++rest).length:=by rw [q2]
  rw [List.length_append,hvs,Array.length_toList] at h1
  rw [Nat.sub_mul]
  omega
 let c1:Cx:={w:=c.w,f:=fun j=>if j=0 then c.f id else c.f wid,al:=fun j=>j<2,M:=fun j=>Al [(0,some ⟨A0 E l++List.replicate ((C-l.length)*E.size) .Es,ty⟩),(1,some ⟨A0 E xs,ty2⟩)] j,no:=c.no}
 have own1:∀b,c1.own b→b=c.f id∨b=c.f wid:=by
  rintro b ⟨j,By,h1,h2⟩
  rcases aZ h1 with ⟨rfl,-⟩|⟨rfl,-⟩
  ·exact .inl h2.symm
  ·exact .inr h2.symm
 have hst:∀b,c.Bx b→c1.Bx b:=fun b ⟨h1,h2,h3⟩=>⟨h1,fun ho=>by
  rcases own1 b ho with rfl|rfl
  ·exact h2 ⟨id,_,hM,rfl⟩
  ·exact h2 ⟨wid,_,hM2,rfl⟩,h3⟩
 have g1:Good B c1:=by
  refine ⟨g.hB,fun j By h=> ?_,fun j By h=> ?_,g.Jg,fun j j' By blk' h h' hf=> ?_⟩
  ·rcases aZ h with ⟨rfl,-⟩|⟨rfl,-⟩
   ·exact ⟨(g.low id _ hM).1,show (0:Nat)<2 by decide⟩
   ·exact ⟨(g.low wid _ hM2).1,show (1:Nat)<2 by decide⟩
  ·rcases aZ h with ⟨rfl,rfl⟩|⟨rfl,rfl⟩
   ·refine ⟨arr0,vs++rest.take ((C-l.length)*E.size),rest.drop ((C-l.length)*E.size),q1,by rw [List.append_assoc,List.take_append_drop];exact q2,(Ka (Hp hE l) q3).append ?_⟩
    have:=cP (c:=c1) (rest.take ((C-l.length)*E.size))
    rwa [List.length_take,Nat.min_eq_left hrest] at this
   ·obtain ⟨arr,vs,rest,q1,q2,q3⟩:=g.By wid _ hM2
    exact ⟨arr,vs,rest,q1,q2,Ka (Hp hE xs) q3⟩
  ·rcases aZ h with ⟨rfl,-⟩|⟨rfl,-⟩<;>rcases aZ h' with ⟨rfl,-⟩|⟨rfl,-⟩
   ·rfl
   ·exact absurd hf hff
   ·exact absurd hf.symm hff
   ·rfl
 have r0:Bo c1 (.sl 0 0 E.size l.length C true) (.slice (some ⟨c.f id,0,none⟩) l.length C):=.sl (c:=c1) (id:=0) (show (0:Nat)<2 by decide) q1 hs (by omega) (Nat.le_refl _) (fun _=>rfl) hm
 have r1:Bo c1 (.sl 1 0 E.size xs.length xs.length false) vx:=by
  cases hvx with
  |sl ha hb hs hk hc he hm=>exact .sl (c:=c1) (id:=1) (show (1:Nat)<2 by decide) hb hs hk hc (fun h=>by cases h) hm
 have ri:Bo c1 (Aa i) vi:=by
  cases hvi with
  |sc _ h=>exact .sc _ h
 refine ((h C (by omega) hm).2 B c1 _ g1 (Cw.Ca (c:=c) rfl hst hgl) (fun _=>rfl) (fun j hj=>hj) (.cons r0 (.cons ri (.cons r1 .nil)))).mono ?_
 rintro e w' ⟨u,m,nx',⟨k,cap,ex,rst0,rfl,hk⟩,v',c2,rfl,rfl,k1,st,g2,k4,k5⟩
 have hk2:c2.M k=some ⟨A0 E l'++rst0,ty⟩:=by rw [k4];exact hk
 have hlow2:=(g2.low k _ hk2).1
 have hsz:c.w.heap.size≤c2.w.heap.size:=st.size
 have hfk:=g2.lt hk2
 have hwhere:(c2.f k=c.f id∨c2.f k=c.f wid)∨c.w.heap.size≤c2.f k:=by
  rcases Nat.lt_or_ge (c2.f k) c.w.heap.size with hlt|hge
  ·exact .inl (own1 _ (st.own _ hlt ⟨k,_,hk2,rfl⟩))
  ·exact .inr hge
 let c':Cx:={w:=c2.w,f:=fun i=>if i=n then c2.f k else c.f i,al:=fun i=>c.al i∨i=n,M:=Wn c.M [(n,some ⟨A0 E l',ty⟩),(wid,none),(id,none)],no:=c.no}
 have hM':∀i,c'.M i=if i=id then none else if i=wid then none else if i=n then some ⟨A0 E l',ty⟩ else c.M i:=fun i=>rfl
 have hMi:∀i By,c'.M i=some By→(i=n∧By=⟨A0 E l',ty⟩)∨(i≠n∧i≠id∧i≠wid∧c.M i=some By):=by
  intro i By h
  rw [hM'] at h
  by_cases e1:i=id
  ·rw [if_pos e1] at h;cases h
  ·rw [if_neg e1] at h
   by_cases e0:i=wid
   ·rw [if_pos e0] at h;cases h
   ·rw [if_neg e0] at h
    by_cases e2:i=n
    ·rw [if_pos e2] at h;exact .inl ⟨e2,(Option.some.inj h).symm⟩
    ·rw [if_neg e2] at h;exact .inr ⟨e2,e1,e0,h⟩
 have own':∀x,c'.own x→c.own x∨x=c2.f k:=by
  rintro x ⟨i,By,h1,h2⟩
  rcases hMi i By h1 with ⟨e,-⟩|⟨e,-,-,h3⟩
  ·right;simp only [c',e,if_true] at h2;exact h2.symm
  ·left;simp only [c',e,if_false] at h2;exact ⟨i,By,h3,h2⟩
 have ownc:∀x,c1.own x→c.own x:=fun x h=>by
  rcases own1 x h with rfl|rfl
  ·exact ⟨id,_,hM,rfl⟩
  ·exact ⟨wid,_,hM2,rfl⟩
 have stp:Step c c':=by
  refine ⟨st.os,st.tape,st.output,st.size,fun x hx ho=>st.By x hx (fun h=>ho (ownc x h)),fun x hx ho=> ?_,fun i hi=> ?_,fun i hi=> .inl hi,fun _=>Iff.rfl,st.Xm,st.drawn⟩
  ·rcases own' x ho with h|h
   ·exact h
   ·have hx':x<c.w.heap.size:=hx
    rcases hwhere with (h2|h2)|h2
    ·exact ⟨id,_,hM,by rw [h,h2]⟩
    ·exact ⟨wid,_,hM2,by rw [h,h2]⟩
    ·omega
  ·have:i≠n:=fun h=>hn (h ▸ hi)
   simp [c',this]
 refine ⟨v',c',rfl,rfl,?_,stp,⟨Nat.le_trans g.hB hsz,fun i By h=> ?_,fun i By h=> ?_,g.Jg,fun i i' By blk' h h' hf=> ?_⟩,fun i=>rfl,fun i h=>h,fun i h=> .inl h⟩
 ·cases k1 with
  |sl ha hb hs hk hc he hm=>
   have:=Bo.sl (c:=c') (id:=n) (off:=0) (esz:=E.size) (n:=l'.length) (cap:=l'.length) (ex:=false) (.inr rfl) (by simp only [c',if_true];exact hb) hs (Nat.le_refl _) (Nat.le_trans hk hc) (fun h=>by cases h) hm
   simpa [c',Nh] using this
 ·rcases hMi i By h with ⟨e,-⟩|⟨e,-,-,h3⟩
  ·simp only [c',e,if_true];exact ⟨hlow2,.inr trivial⟩
  ·simp only [c',e,if_false];exact ⟨(g.low i By h3).1,.inl (g.low i By h3).2⟩
 ·rcases hMi i By h with ⟨e,rfl⟩|⟨e,e2,e3,h3⟩
  ·obtain ⟨arr,vs,rst,q1,q2,q3⟩:=g2.By k _ hk2
   refine ⟨arr,vs.take (A0 E l').length,vs.drop (A0 E l').length++rst,by simp only [c',e,if_true];exact q1,by rw [← List.append_assoc,List.take_append_drop];exact q2,?_⟩
   have:=q3.take (A0 E l').length
   rw [List.take_left] at this
   exact Ka (Hp hE l') this
  ·obtain ⟨arr,vs,rst,q1,q2,q3⟩:=g.By i By h3
   refine ⟨arr,vs,rst,?_,q2,q3.step stp⟩
   simp only [c',e,if_false]
   exact (st.By _ (E9 q1) (fun ho=>by
    rcases own1 _ ho with h5|h5
    ·exact e2 (g.inj i id By _ h3 hM h5)
    ·exact e3 (g.inj i wid By _ h3 hM2 h5))).trans q1
 ·have hcl:∀i By,i≠id→i≠wid→c.M i=some By→c2.f k≠c.f i:=fun i By e2 e3 h3 hf=>by
   have hlt:=g.lt h3
   rcases hwhere with (h2|h2)|h2
   ·exact e2 (g.inj i id By _ h3 hM (by rw [← hf,h2]))
   ·exact e3 (g.inj i wid By _ h3 hM2 (by rw [← hf,h2]))
   ·omega
  rcases hMi i By h with ⟨e1,-⟩|⟨e1,e2,e2',h3⟩<;>rcases hMi i' blk' h' with ⟨e3,-⟩|⟨e3,e4,e4',h5⟩
  ·rw [e1,e3]
  ·exfalso
   simp only [c',e1,e3,if_true,if_false] at hf
   exact hcl i' blk' e4 e4' h5 hf
  ·exfalso
   simp only [c',e1,e3,if_true,if_false] at hf
   exact hcl i By e2 e2' h3 hf.symm
  ·simp only [c',e1,e3,if_false] at hf
   exact g.inj i i' By blk' h3 h5 hf
theorem sI {n wid ty ty2:Nat} {look:Nat→Option Be} {f:FuncId} {l' xs xs0:List α} {i:Int} (hE:ScE E) (hl2:xs0.length=xs.length) (hb2:look wid=some ⟨A0 E xs,ty2⟩)
  (h:Pb P gl [(0,some ⟨A0 E xs,ty2⟩)] 1 f [.Ec 0 [] true,Aa i,.sl 0 0 E.size xs.length xs.length false] (O1 E ty l')):
  Dq P gl look n f [.Ec 0 [] true,Aa i,Hk E wid xs0] (Nh E n l') [(n,some ⟨A0 E l',ty⟩),(wid,none)]:=by
 refine ⟨h.1,fun B c vals g hgl hn hlk hr=> ?_⟩
 rw [Hk,hl2] at hr
 have hM:=hlk wid _ hb2
 have hfid:=g.lt hM
 have hidn:wid≠n:=fun e=>hn (e ▸ (g.low wid _ hM).2)
 cases hr with
 |cons hv hr=>
 cases hr with
 |cons hvi hr=>
 cases hr with
 |cons hvx hr=>
 cases hr with
 |nil=>
 rename_i v vi vx
 let c1:Cx:={w:=c.w,f:=fun _=>c.f wid,al:=fun j=>j=0,M:=fun j=>Al [(0,some ⟨A0 E xs,ty2⟩)] j,no:=c.no}
 have own1:∀b,c1.own b→b=c.f wid:=by
  rintro b ⟨j,By,h1,h2⟩
  exact h2.symm
 have hst:∀b,c.Bx b→c1.Bx b:=fun b ⟨h1,h2,h3⟩=>⟨h1,fun ho=>h2 (own1 b ho ▸ ⟨wid,_,hM,rfl⟩),h3⟩
 have g1:Good B c1:=by
  have hj:∀j By,c1.M j=some By→j=0∧By=⟨A0 E xs,ty2⟩:=by
   intro j By h
   have h:Al [(0,some ⟨A0 E xs,ty2⟩)] j=some By:=h
   unfold Al at h
   cases hq:Nat.beq 0 j with
   |true=>rw [hq] at h;exact ⟨(Nat.eq_of_beq_eq_true hq).symm,(Option.some.inj h).symm⟩
   |false=>rw [hq] at h;simp [Al] at h
  refine ⟨g.hB,fun j By h=> ?_,fun j By h=> ?_,g.Jg,fun j j' By blk' h h' _=> ?_⟩
  ·exact ⟨(g.low wid _ hM).1,(hj j By h).1⟩
  ·obtain ⟨rfl,rfl⟩:=hj j By h
   obtain ⟨arr,vs,rest,q1,q2,q3⟩:=g.By wid _ hM
   exact ⟨arr,vs,rest,q1,q2,Ka (Hp hE xs) q3⟩
  ·rw [(hj j By h).1,(hj j' blk' h').1]
 have r0:Bo c1 (.Ec 0 [] true) v:=by
  cases hv with
  |Gd a cap ex he hm hn=>exact .Gd a cap true he hm hn
  |Ec hb hr hc hn he hm=>
   cases hr
   rename_i b o cap
   have h0:cap=0:=he rfl
   subst h0
   exact .Gd (some ⟨b,o,none⟩) 0 true (fun _=>rfl) (Nat.zero_le _) (fun h=>by cases h)
 have r1:Bo c1 (.sl 0 0 E.size xs.length xs.length false) vx:=by
  cases hvx with
  |sl ha hb hs hk hc he hm=>exact .sl (c:=c1) (id:=0) rfl hb hs hk hc (fun h=>by cases h) hm
 have ri:Bo c1 (Aa i) vi:=by
  cases hvi with
  |sc _ h=>exact .sc _ h
 refine (h.2 B c1 _ g1 (Cw.Ca (c:=c) rfl hst hgl) (fun _=>rfl) (fun j hj=>by have:j=0:=hj;omega) (.cons r0 (.cons ri (.cons r1 .nil)))).mono ?_
 rintro e w' ⟨u,m,nx',⟨k,cap,ex,rest,rfl,hk⟩,v',c2,rfl,rfl,k1,st,g2,k4,k5⟩
 have hk2:c2.M k=some ⟨A0 E l'++rest,ty⟩:=by rw [k4];exact hk
 have hlow2:=(g2.low k _ hk2).1
 have hsz:c.w.heap.size≤c2.w.heap.size:=st.size
 have hfk:=g2.lt hk2
 have hwhere:c2.f k=c.f wid∨c.w.heap.size≤c2.f k:=by
  rcases Nat.lt_or_ge (c2.f k) c.w.heap.size with hlt|hge
  ·exact .inl (own1 _ (st.own _ hlt ⟨k,_,hk2,rfl⟩))
  ·exact .inr hge
 let c':Cx:={w:=c2.w,f:=fun i=>if i=n then c2.f k else c.f i,al:=fun i=>c.al i∨i=n,M:=Wn c.M [(n,some ⟨A0 E l',ty⟩),(wid,none)],no:=c.no}
 have hM':∀i,c'.M i=if i=wid then none else if i=n then some ⟨A0 E l',ty⟩ else c.M i:=fun i=>rfl
 have hMi:∀i By,c'.M i=some By→(i=n∧By=⟨A0 E l',ty⟩)∨(i≠n∧i≠wid∧c.M i=some By):=by
  intro i By h
  rw [hM'] at h
  by_cases e1:i=wid
  ·rw [if_pos e1] at h;cases h
  ·rw [if_neg e1] at h
   by_cases e2:i=n
   ·rw [if_pos e2] at h;exact .inl ⟨e2,(Option.some.inj h).symm⟩
   ·rw [if_neg e2] at h;exact .inr ⟨e2,e1,h⟩
 have own':∀x,c'.own x→c.own x∨x=c2.f k:=by
  rintro x ⟨i,By,h1,h2⟩
  rcases hMi i By h1 with ⟨e,-⟩|⟨e,-,h3⟩
  ·right;simp only [c',e,if_true] at h2;exact h2.symm
  ·left;simp only [c',e,if_false] at h2;exact ⟨i,By,h3,h2⟩
 have stp:Step c c':=by
  refine ⟨st.os,st.tape,st.output,st.size,fun x hx ho=>st.By x hx (fun h=>ho (own1 x h ▸ ⟨wid,_,hM,rfl⟩)),fun x hx ho=> ?_,fun i hi=> ?_,fun i hi=> .inl hi,fun _=>Iff.rfl,st.Xm,st.drawn⟩
  ·rcases own' x ho with h|h
   ·exact h
   ·have hx':x<c.w.heap.size:=hx
    rcases hwhere with h2|h2
    ·exact ⟨wid,_,hM,by rw [h,h2]⟩
    ·omega
  ·have:i≠n:=fun h=>hn (h ▸ hi)
   simp [c',this]
 refine ⟨v',c',rfl,rfl,?_,stp,⟨Nat.le_trans g.hB hsz,fun i By h=> ?_,fun i By h=> ?_,g.Jg,fun i i' By blk' h h' hf=> ?_⟩,fun i=>rfl,fun i h=>h,fun i h=> .inl h⟩
 ·cases k1 with
  |sl ha hb hs hk hc he hm=>
   have:=Bo.sl (c:=c') (id:=n) (off:=0) (esz:=E.size) (n:=l'.length) (cap:=l'.length) (ex:=false) (.inr rfl) (by simp only [c',if_true];exact hb) hs (Nat.le_refl _) (Nat.le_trans hk hc) (fun h=>by cases h) hm
   simpa [c',Nh] using this
 ·rcases hMi i By h with ⟨e,-⟩|⟨e,-,h3⟩
  ·simp only [c',e,if_true];exact ⟨hlow2,.inr trivial⟩
  ·simp only [c',e,if_false];exact ⟨(g.low i By h3).1,.inl (g.low i By h3).2⟩
 ·rcases hMi i By h with ⟨e,rfl⟩|⟨e,e2,h3⟩
  ·obtain ⟨arr,vs,rst,q1,q2,q3⟩:=g2.By k _ hk2
   refine ⟨arr,vs.take (A0 E l').length,vs.drop (A0 E l').length++rst,by simp only [c',e,if_true];exact q1,by rw [← List.append_assoc,List.take_append_drop];exact q2,?_⟩
   have:=q3.take (A0 E l').length
   rw [List.take_left] at this
   exact Ka (Hp hE l') this
  ·obtain ⟨arr,vs,rst,q1,q2,q3⟩:=g.By i By h3
   refine ⟨arr,vs,rst,?_,q2,q3.step stp⟩
   simp only [c',e,if_false]
   exact (st.By _ (E9 q1) (fun ho=>e2 (g.inj i wid By _ h3 hM (own1 _ ho)))).trans q1
 ·rcases hMi i By h with ⟨e1,-⟩|⟨e1,e2,h3⟩<;>rcases hMi i' blk' h' with ⟨e3,-⟩|⟨e3,e4,h5⟩
  ·rw [e1,e3]
  ·exfalso
   have hlt:=g.lt h5
   simp only [c',e1,e3,if_true,if_false] at hf
   rcases hwhere with h2|h2
   ·exact e4 (g.inj i' wid blk' _ h5 hM (by rw [← hf,h2]))
   ·omega
  ·exfalso
   have hlt:=g.lt h3
   simp only [c',e1,e3,if_true,if_false] at hf
   rcases hwhere with h2|h2
   ·exact e2 (g.inj i wid By _ h3 hM (by rw [hf,h2]))
   ·omega
  ·simp only [c',e1,e3,if_false] at hf
   exact g.inj i i' By blk' h3 h5 hf
def jM {α:Type} (by_:Nat) (l:List α) (i:Int) (xs:List α):Option (List α):=if 0≤i∧i≤l.length∧0<xs.length∧(l.length+xs.length)*by_≤140737488355328∧l.length+xs.length≤4611686018427387904 then some (l.take i.toNat++xs++l.drop i.toNat) else none
theorem Aj0 {t ti e n id off esz k C:Nat} {look:Nat→Option Be} (hu:P.underlying t=some (.slice e)):Ce P (.call ⟨.builtin .cap,#[.tmp 0],#[t]⟩) ti [.sl id off esz k C true] look n=some (Aa C,[]):=by
 show Aa2 P t (.sl id off esz k C true)=_
 simp only [Aa2,hu]
theorem Abv {t ti e sz by_ n id off k cap z ty:Nat} {kk:IntKind} {zs old:List AV} {look:Nat→Option Be} (hu:P.underlying t=some (.slice e)) (hti:P.underlying ti=some (.int kk)) (hz:Df P e=some sz) (hb:K1 P e=some by_) (hze:(Gv P e).bind (fun z=>(G0 z).bind C4)=some zs) (hzs:zs.length=sz) (h1:1≤sz)
  (ho:cellsOf look sz (.sl id off sz k cap true)=some (k,old)) (hz0:0<z) (hc:cap+1≤k+z) (hr1:(k+z)*by_≤140737488355328) (hr2:k+z≤4611686018427387904):
  Ce P (.call ⟨.builtin .append,#[.tmp 0,.tmp 1],#[t,ti]⟩) ty [.sl id off sz k cap true,Aa (z:Int)] look n=some (.sl n 0 sz (k+z) (k+z) false,[(n,some ⟨old++rep zs z,e⟩)]):=by
 show Kh P look n t ti (.sl id off sz k cap true) (Aa (z:Int))=_
 have e1:decide ((0:Int)<(z:Int))=true:=by simp;omega
 simp only [Kh,hu,hti,M8,hz,hb,hze,ho,e1,Int.toNat_natCast,Nat.ble_eq_true_of_le hc,Nat.ble_eq_true_of_le hr1,Nat.ble_eq_true_of_le hr2,hzs,Nat.beq_refl,Nat.ble_eq_true_of_le h1,Bool.true_or,Bool.and_self,cond_true]
theorem T5 {t tx ti e sz n id off k cap m:Nat} {ex:Bool} {x:AV} {xs:List AV} {b:Be} {look:Nat→Option Be} (hu:P.underlying t=some (.slice e)) (hz:Df P e=some sz) (hx:cellsOf look sz x=some (m,xs)) (hb:look id=some b) (hlen:off+k*sz≤b.cells.length) (hcell:(xs.take (Nat.min m k*sz)).all Cl=true):
  Ce P (.call ⟨.builtin .copy,#[.tmp 0,.tmp 1],#[t,tx]⟩) ti [.sl id off sz k cap ex,x] look n=some (Aa ((Nat.min m k:Nat):Int),[(id,some ⟨Dh b.cells off (xs.take (Nat.min m k*sz)),b.ty⟩)]):=by
 show bT P look t tx (.sl id off sz k cap ex) x=_
 simp only [bT,hu,hz,hx,hb,Nat.ble_eq_true_of_le hlen,hcell,Nat.beq_refl,Bool.true_or,Bool.and_self,cond_true]
theorem oO {A Z X D:List AV} {p q:Nat} (hA:A.length=p) (hq:q=p+X.length) (hZ:Z.length=X.length+D.length):Dh (Dh (A++Z) p X) q D=A++X++D:=by
 subst hA hq
 unfold Dh
 have e1:(A++Z).take A.length=A:=List.take_left
 have e2:(A++Z).drop (A.length+X.length)=Z.drop X.length:=by rw [← List.drop_drop,List.drop_left]
 rw [e1,e2]
 have e3:(A++X++Z.drop X.length).take (A.length+X.length)=A++X:=by rw [← List.length_append,List.take_left]
 have e4:(A++X++Z.drop X.length).drop (A.length+X.length+D.length)=[]:=List.drop_eq_nil_of_le (by simp;omega)
 rw [e3,e4,List.append_nil]
theorem nY {A D U X:List AV} {p q:Nat} (hA:A.length=p) (hq:q=p+X.length) (hU:X.length≤U.length):∃rest,Dh (Dh (A++D++U) q D) p X=A++X++D++rest:=by
 subst hA hq
 refine ⟨(A++D++U).drop (A.length+X.length+D.length),?_⟩
 unfold Dh
 have hl:((A++D++U).take (A.length+X.length)).length=A.length+X.length:=by rw [List.length_take];simp;omega
 have e1:((A++D++U).take (A.length+X.length)++D++(A++D++U).drop (A.length+X.length+D.length)).take A.length=A:=by
  rw [List.append_assoc,List.take_append_of_le_length (by rw [hl];omega),List.take_take,Nat.min_eq_left (by omega),List.append_assoc,List.take_left]
 have e2:((A++D++U).take (A.length+X.length)++D++(A++D++U).drop (A.length+X.length+D.length)).drop (A.length+X.length)=D++(A++D++U).drop (A.length+X.length+D.length):=by
  rw [List.append_assoc]
  exact List.drop_left' hl
 rw [e1,e2,List.append_assoc (A++X)]
def gO (P:Program) (gl:Nat→Option (List AV)) (t ti e sz by_ fo:Nat) (zs:List AV) (rest:Int→Int→AV→Prop) (a0:AV) (a1:Int) (a2:AV) (m:Mem) (R:AV→Mem→Prop):Prop:=
  A4 (Ce P (.slice t (.tmp 0) (some (.tmp 1)) none none) t [a0,(AV.sc (.int .i64 a1))] (Al m) 5) fun v0=>
  A4 (Da a2) fun v1=>
  Ag v1 fun z2=>
  bif (z2==(0)) then (
  As R m [some a0]) else (
  A4 (Da a0) fun v3=>
  Ag v3 fun z4=>
  bif (a1==z4) then (
  Hi (app (Al m) e sz by_ zs 19 a0 a2) m fun v5 m5=>
  As R m5 [some v5]) else (
  A4 (Ce P (.call ⟨.builtin .cap,#[.tmp 0],#[t]⟩) ti [a0] (Al m) 21) fun v6=>
  Ag v6 fun z7=>
  bif (decide ((IntKind.wrap .i64 (z4+z2))>z7)) then (
  A4 (Ce P (.slice t (.tmp 0) none (some (.tmp 1)) none) t [a0,(AV.sc (.int .i64 a1))] (Al m) 25) fun v8=>
  Hi (Ce P (.call ⟨.builtin .append,#[.tmp 0,.tmp 1],#[t,ti]⟩) t [v8,(AV.sc (.int .i64 (IntKind.wrap .i64 ((IntKind.wrap .i64 (z4+z2))-a1))))] (Al m) 31) m fun v9 m9=>
  A4 (Ce P (.slice t (.tmp 0) (some (.tmp 1)) none none) t [v9,(AV.sc (.int .i64 a1))] (Al m9) 35) fun v10=>
  Hi (Ce P (.call ⟨.builtin .copy,#[.tmp 0,.tmp 1],#[t,t]⟩) ti [v10,a2] (Al m9) 37) m9 fun v11 m11=>
  Ag v11 fun z12=>
  H0 (Ce P (.slice t (.tmp 0) (some (.tmp 1)) none none) t [v9,(AV.sc (.int .i64 (IntKind.wrap .i64 (a1+z2))))] (Cy m11 (A3 v9++(A3 (AV.sc (.int .i64 (IntKind.wrap .i64 (a1+z2))))++([])))) 42) fun v13 d13=>
  H0 (Ce P (.slice t (.tmp 0) (some (.tmp 1)) none none) t [a0,(AV.sc (.int .i64 a1))] (Cy (Ad m11 d13) (A3 a0++(A3 (AV.sc (.int .i64 a1))++([])))) 45) fun v14 d14=>
  H0 (Ce P (.call ⟨.builtin .copy,#[.tmp 0,.tmp 1],#[t,t]⟩) ti [v13,v14] (Cy (Ad (Ad m11 d13) d14) (A3 v13++(A3 v14++([])))) 46) fun v15 d15=>
  Ag v15 fun z16=>
  Ic (E3 [0,0,0,6,15,0,0,96,255] [⟨[],[]⟩,⟨[],[]⟩,⟨[],[]⟩,⟨[],[]⟩,⟨d13,(A3 v9++(A3 (AV.sc (.int .i64 (IntKind.wrap .i64 (a1+z2))))++([])))⟩,⟨[],[]⟩,⟨[],[]⟩,⟨d14,(A3 a0++(A3 (AV.sc (.int .i64 a1))++([])))⟩,⟨d15,(A3 v13++(A3 v14++([])))⟩]) (As R (Ad (Ad (Ad m11 d13) d14) d15) [some v9])) else (
  A4 (Ce P (.slice t (.tmp 0) none (some (.tmp 1)) none) t [a0,(AV.sc (.int .i64 (IntKind.wrap .i64 (z4+z2))))] (Al m) 27) fun v17=>
  A4 (Ce P (.slice t (.tmp 0) (some (.tmp 1)) none none) t [v17,(AV.sc (.int .i64 (IntKind.wrap .i64 (a1+z2))))] (Al m) 34) fun v18=>
  A2 P gl m fo [a2,v18] fun v19=>
  Ha v19 fun b20=>
  bif (!b20) then (
  H0 (Ce P (.slice t (.tmp 0) (some (.tmp 1)) none none) t [v17,(AV.sc (.int .i64 (IntKind.wrap .i64 (a1+z2))))] (Cy m (A3 v17++(A3 (AV.sc (.int .i64 (IntKind.wrap .i64 (a1+z2))))++([])))) 104) fun v21 d21=>
  H0 (Ce P (.slice t (.tmp 0) (some (.tmp 1)) none none) t [v17,(AV.sc (.int .i64 a1))] (Cy (Ad m d21) (A3 v17++(A3 (AV.sc (.int .i64 a1))++([])))) 107) fun v22 d22=>
  H0 (Ce P (.call ⟨.builtin .copy,#[.tmp 0,.tmp 1],#[t,t]⟩) ti [v21,v22] (Cy (Ad (Ad m d21) d22) (A3 v21++(A3 v22++([])))) 108) fun v23 d23=>
  Ag v23 fun z24=>
  Ic (E3 [0,0,0,6,15,0,0,96,255] [⟨[],[]⟩,⟨[],[]⟩,⟨[],[]⟩,⟨[],[]⟩,⟨d21,(A3 v17++(A3 (AV.sc (.int .i64 (IntKind.wrap .i64 (a1+z2))))++([])))⟩,⟨[],[]⟩,⟨[],[]⟩,⟨d22,(A3 v17++(A3 (AV.sc (.int .i64 a1))++([])))⟩,⟨d23,(A3 v21++(A3 v22++([])))⟩]) (A4 (Ce P (.slice t (.tmp 0) (some (.tmp 1)) none none) t [v17,(AV.sc (.int .i64 a1))] (Al (Ad (Ad (Ad m d21) d22) d23)) 111) fun v25=>
  Hi (Ce P (.call ⟨.builtin .copy,#[.tmp 0,.tmp 1],#[t,t]⟩) ti [v25,a2] (Al (Ad (Ad (Ad m d21) d22) d23)) 113) (Ad (Ad (Ad m d21) d22) d23) fun v26 m26=>
  Ag v26 fun z27=>
  As R m26 [some v17])) else (rest z2 z4 v17))))
theorem mX {f t ti e sz by_ ty2 fo to_ tr nt:Nat} {kk:IntKind} {zs:List AV} {l xs:List α} {i C:Nat} (hu:P.underlying t=some (.slice e)) (hti:P.underlying ti=some (.int kk)) (hz:Df P e=some sz) (hby:K1 P e=some by_) (hs:E.size=sz) (hzl:zs.length=sz) (hze:(Gv P e).bind (fun z=>(G0 z).bind C4)=some zs) (hfo:mI P fo to_ tr)
  (hC:l.length≤C) (hCm:C≤maxLen) (hl:l≠[]) (hx:xs≠[]) (hi:i≤l.length) (hr1:(l.length+xs.length)*by_≤140737488355328) (hr2:l.length+xs.length≤4611686018427387904)
  (R:AV→Mem→Prop) (hR:∀u m,O1 E e (l.take i++xs++l.drop i) u m→R u m) (m:Mem) (hm:m=[(0,some ⟨A0 E l++List.replicate ((C-l.length)*E.size) .Es,e⟩),(1,some ⟨A0 E xs,ty2⟩)]) (a0:AV) (ha0:a0=.sl 0 0 E.size l.length C true) (a1:Int) (ha1:a1=(i:Int)) (a2:AV) (ha2:a2=.sl 1 0 E.size xs.length xs.length false) (rest:Int→Int→AV→Prop):
  gO P gl t ti e sz by_ fo zs rest a0 a1 a2 m R:=by
 subst hs hm ha0 ha1 ha2
 unfold gO
 have hn0:l.length≠0:=fun h=>hl (List.eq_nil_of_length_eq_zero h)
 have hm0:xs.length≠0:=fun h=>hx (List.eq_nil_of_length_eq_zero h)
 have hp:=E.pos
 have hel:(A0 E l).length=l.length*E.size:=Br l
 have hex:(A0 E xs).length=xs.length*E.size:=Br xs
 have hU:(C-l.length)*E.size=C*E.size-l.length*E.size:=Nat.sub_mul _ _ _
 have hCE:l.length*E.size≤C*E.size:=Nat.mul_le_mul_right _ hC
 have hbl:(A0 E l++List.replicate ((C-l.length)*E.size) AV.Es).length=C*E.size:=by rw [List.length_append,List.length_replicate,hel,hU];omega
 have hta:(A0 E (l.take i)).length=i*E.size:=by rw [Br,List.length_take,Nat.min_eq_left hi]
 have hda:(A0 E (l.drop i)).length=(l.length-i)*E.size:=by rw [Br,List.length_drop]
 have htd:A0 E l=A0 E (l.take i)++A0 E (l.drop i):=by rw [← Ds,List.take_append_drop]
 have hiE:i*E.size≤l.length*E.size:=Nat.mul_le_mul_right _ hi
 have s3:=fun (yt ty n:Nat) (look:Nat→Option Be) (id k cap off:Nat) (ex:Bool) (x y z:AV)=>J5 (P:=P) (look:=look) (yt:=yt) (ty:=ty) (n:=n) hu hz (id:=id) (off:=off) (esz:=E.size) (k:=k) (cap:=cap) (ex:=ex) (x:=x) (y:=y) (z:=z)
 refine B6 ((s3 0 t 5 _ 0 l.length C 0 true (Aa (i:Int)) .Es .Es).2.2.1.trans (Fu (Em (a:=i)) (hi:=l.length) rfl (mx:=C) rfl hi hC (Nat.le_refl _) rfl)) ?_
 refine B6 (v:=Aa xs.length) rfl ?_
 refine C3 ?_
 rw [show (((xs.length:Nat):Int)==0)=false from beq_eq_false_iff_ne.2 (by omega),cond_false]
 refine B6 (v:=Aa l.length) rfl ?_
 refine C3 ?_
 have hxc:∀look:Nat→Option Be,look 1=some ⟨A0 E xs,ty2⟩→cellsOf look E.size (.sl 1 0 E.size xs.length xs.length false)=some (xs.length,A0 E xs):=fun look h=>J4 rfl rfl h
 have w1:IntKind.wrap .i64 ((l.length:Int)+(xs.length:Int))=((l.length+xs.length:Nat):Int):=by rw [wrap64 (by omega) (by omega)];omega
 have w2:IntKind.wrap .i64 ((i:Int)+(xs.length:Int))=((i+xs.length:Nat):Int):=by rw [wrap64 (by omega) (by omega)];omega
 rcases Nat.eq_or_lt_of_le hi with hin|hin
 ·
  rw [show (((i:Nat):Int)==((l.length:Nat):Int))=true from beq_iff_eq.2 (by omega),cond_true]
  have hall:l.take i++xs++l.drop i=l++xs:=by subst hin;rw [List.take_length,List.drop_length,List.append_nil]
  have hxm:=hxc (Al [(0,some ⟨A0 E l++List.replicate ((C-l.length)*E.size) .Es,e⟩),(1,some ⟨A0 E xs,ty2⟩)]) rfl
  have hc0:cellsOf (Al [(0,some ⟨A0 E l++List.replicate ((C-l.length)*E.size) .Es,e⟩),(1,some ⟨A0 E xs,ty2⟩)]) E.size (.sl 0 0 E.size l.length C true)=some (l.length,A0 E l):=by
   simp only [cellsOf,Al,Nat.beq_refl,cond_true,Bool.and_true,hbl,List.drop_zero]
   rw [Nat.ble_eq_true_of_le (by omega),cond_true,← hel,List.take_left]
  rcases Nat.lt_or_ge C (l.length+xs.length) with hroom|hroom
  ·refine Cz (v:=.sl 19 0 E.size (l.length+xs.length) (l.length+xs.length) false) (d:=[(19,some ⟨A0 E l++A0 E xs,e⟩)]) ?_ ?_
   ·unfold app
    simp only [hxm,Gh hm0,cond_false,hc0,Nat.ble_eq_true_of_le hr1,Nat.ble_eq_true_of_le hr2,hzl,Nat.beq_refl,Nat.ble_eq_true_of_le hp,Ew,hex,hel,Bool.true_or,Bool.and_self,cond_true]
    rw [show Nat.ble (l.length+xs.length) C=false from by cases h:Nat.ble (l.length+xs.length) C with|false=>rfl|true=>(have:=Nat.le_of_ble_eq_true h;omega)]
    rfl
   ·refine hR _ _ ⟨19,l.length+xs.length,false,[],?_,?_⟩
    ·rw [hall,List.length_append]
    ·rw [hall,Ds,List.append_nil];rfl
  ·refine Cz (y9 (m:=xs.length) (hxc _ rfl) hm0 hc0 (b:=⟨A0 E l++List.replicate ((C-l.length)*E.size) .Es,e⟩) rfl hroom (by show _≤(A0 E l++_).length;rw [hbl,Nat.zero_add];exact Nat.mul_le_mul_right _ hroom) hzl hp hex hel (Ew _) hr1 hr2) ?_
   refine hR _ _ ⟨0,C,true,(A0 E l++List.replicate ((C-l.length)*E.size) AV.Es).drop (0+l.length*E.size+(A0 E xs).length),?_,?_⟩
   ·rw [hall,List.length_append]
   ·rw [hall,Ds]
    show some (⟨Dh (A0 E l++List.replicate ((C-l.length)*E.size) .Es) (0+l.length*E.size) (A0 E xs),e⟩:Be)=_
    unfold Dh
    rw [Nat.zero_add,← hel,List.take_left]
 rw [show (((i:Nat):Int)==((l.length:Nat):Int))=false from beq_eq_false_iff_ne.2 (by omega),cond_false]
 refine B6 (Aj0 hu) ?_
 refine C3 ?_
 rw [w1,w2]
 have hmi:(l.length+xs.length)*E.size=l.length*E.size+xs.length*E.size:=Nat.add_mul _ _ _
 have him:(i+xs.length)*E.size=i*E.size+xs.length*E.size:=Nat.add_mul _ _ _
 have hli:(l.length-i)*E.size=l.length*E.size-i*E.size:=Nat.sub_mul _ _ _
 rcases Nat.lt_or_ge C (l.length+xs.length) with hroom|hroom
 ·
  rw [show decide ((((l.length+xs.length:Nat):Int))>(C:Int))=true from decide_eq_true (by omega),cond_true]
  have w3:IntKind.wrap .i64 (((l.length+xs.length:Nat):Int)-(i:Int))=((l.length+xs.length-i:Nat):Int):=by rw [wrap64 (by omega) (by omega)];omega
  rw [w3]
  refine B6 ((s3 0 t 25 _ 0 l.length C 0 true (Aa (i:Int)) .Es .Es).2.1.trans (Fu (lo:=0) rfl (Em (a:=i)) (mx:=C) rfl (Nat.zero_le _) (by omega) (Nat.le_refl _) rfl)) ?_
  rw [Gh (show 0≠C by omega),cond_false]
  have hc0:cellsOf (Al [(0,some ⟨A0 E l++List.replicate ((C-l.length)*E.size) .Es,e⟩),(1,some ⟨A0 E xs,ty2⟩)]) E.size (.sl 0 (0+0*E.size) E.size (i-0) (C-0) true)=some (i-0,A0 E (l.take i)):=by
   simp only [cellsOf,Al,Nat.beq_refl,cond_true,Bool.and_true,hbl,Nat.zero_mul,Nat.add_zero,List.drop_zero,Nat.sub_zero]
   rw [Nat.ble_eq_true_of_le (by omega),cond_true,List.take_append_of_le_length (by omega),Ji]
  refine Cz (Abv (z:=l.length+xs.length-i) hu hti hz hby hze hzl hp hc0 (by omega) (by omega) (Nat.le_trans (Nat.mul_le_mul_right _ (by omega)) hr1) (by omega)) ?_
  have hk:i-0+(l.length+xs.length-i)=l.length+xs.length:=by omega
  rw [hk]
  refine B6 ((s3 0 t 35 _ 31 (l.length+xs.length) (l.length+xs.length) 0 false (Aa (i:Int)) .Es .Es).2.2.1.trans (Fu (Em (a:=i)) (hi:=l.length+xs.length) rfl (mx:=l.length+xs.length) rfl (by omega) (Nat.le_refl _) (Nat.le_refl _) rfl)) ?_
  rw [Gh (show i≠l.length+xs.length by omega),cond_false]
  have hrl:(rep zs (l.length+xs.length-i)).length=(l.length+xs.length-i)*E.size:=Ox hzl _
  have hrl2:(l.length+xs.length-i)*E.size=l.length*E.size+xs.length*E.size-i*E.size:=by rw [Nat.sub_mul,hmi]
  have hmin1:Nat.min xs.length (l.length+xs.length-i)=xs.length:=Nat.min_eq_left (by omega)
  refine Cz (T5 (m:=xs.length) (b:=⟨A0 E (l.take i)++rep zs (l.length+xs.length-i),e⟩) hu hz (hxc _ rfl) rfl (by
   show _≤(A0 E (l.take i)++rep zs _).length
   rw [List.length_append,hta,hrl,hrl2];omega) (by rw [hmin1,← hex,List.take_length];exact Ew _)) ?_
  rw [hmin1,← hex,List.take_length]
  refine C3 ?_
  refine Dr ((s3 0 t 42 _ 31 (l.length+xs.length) (l.length+xs.length) 0 false (Aa ((i+xs.length:Nat):Int)) .Es .Es).2.2.1.trans (Fu (Em (a:=i+xs.length)) (hi:=l.length+xs.length) rfl (mx:=l.length+xs.length) rfl (by omega) (Nat.le_refl _) (Nat.le_refl _) rfl)) ?_
  rw [Gh (show i+xs.length≠l.length+xs.length by omega),cond_false]
  refine Dr ((s3 0 t 45 _ 0 l.length C 0 true (Aa (i:Int)) .Es .Es).2.2.1.trans (Fu (Em (a:=i)) (hi:=l.length) rfl (mx:=C) rfl (by omega) (by omega) (Nat.le_refl _) rfl)) ?_
  rw [Gh (show i≠C by omega),cond_false]
  have hc1:∀look:Nat→Option Be,look 0=some ⟨A0 E l++List.replicate ((C-l.length)*E.size) .Es,e⟩→cellsOf look E.size (.sl 0 (0+i*E.size) E.size (l.length-i) (C-i) true)=some (l.length-i,A0 E (l.drop i)):=by
   intro look h
   simp only [cellsOf,h,Nat.beq_refl,cond_true,Bool.and_true,hbl,Nat.zero_add]
   rw [Nat.ble_eq_true_of_le (by rw [hli];omega),cond_true,List.drop_append_of_le_length (by omega),Ij,List.take_append_of_le_length (by omega),← hda,List.take_length]
  have hmin2:Nat.min (l.length-i) (l.length+xs.length-(i+xs.length))=l.length-i:=Nat.min_eq_left (by omega)
  refine Dr (T5 (m:=l.length-i) (b:=⟨Dh (A0 E (l.take i)++rep zs (l.length+xs.length-i)) (0+i*E.size) (A0 E xs),e⟩) hu hz (hc1 _ rfl) rfl (by
   have:(Dh (A0 E (l.take i)++rep zs (l.length+xs.length-i)) (0+i*E.size) (A0 E xs)).length=(l.length+xs.length)*E.size:=by
    unfold Dh
    simp only [List.length_append,List.length_take,List.length_drop,hta,hrl,hrl2,hex,hmi]
    omega
   show _≤(Dh _ _ _).length
   rw [this,hmi,him,show l.length+xs.length-(i+xs.length)=l.length-i by omega,hli];omega) (by rw [hmin2,← hda,List.take_length];exact Ew _)) ?_
  rw [hmin2,← hda,List.take_length]
  refine C3 ?_
  refine Dm (by kernel_rfl) ?_
  refine hR _ _ ⟨31,l.length+xs.length,false,[],?_,?_⟩
  ·rw [List.length_append,List.length_append,List.length_take,List.length_drop,show min i l.length+xs.length+(l.length-i)=l.length+xs.length by omega]
  ·show some (⟨Dh (Dh (A0 E (l.take i)++rep zs (l.length+xs.length-i)) (0+i*E.size) (A0 E xs)) (0+(i+xs.length)*E.size) (A0 E (l.drop i)),e⟩:Be)=_
   rw [oO (p:=0+i*E.size) (by rw [hta,Nat.zero_add]) (by rw [hex,him];omega) (by rw [hrl,hrl2,hex,hda,hli];omega),Ds,Ds,List.append_nil]
 ·
  rw [show decide ((((l.length+xs.length:Nat):Int))>(C:Int))=false from decide_eq_false (by omega),cond_false]
  have hroomE:l.length*E.size+xs.length*E.size≤C*E.size:=by rw [← hmi];exact Nat.mul_le_mul_right _ hroom
  refine B6 ((s3 0 t 27 _ 0 l.length C 0 true (Aa ((l.length+xs.length:Nat):Int)) .Es .Es).2.1.trans (Fu (lo:=0) rfl (Em (a:=l.length+xs.length)) (mx:=C) rfl (Nat.zero_le _) hroom (Nat.le_refl _) rfl)) ?_
  rw [Gh (show 0≠C by omega),cond_false]
  simp only [Nat.zero_mul,Nat.add_zero,Nat.sub_zero,Option.isSome_none,Bool.or_false]
  refine B6 ((s3 0 t 34 _ 0 (l.length+xs.length) C 0 true (Aa ((i+xs.length:Nat):Int)) .Es .Es).2.2.1.trans (Fu (Em (a:=i+xs.length)) (hi:=l.length+xs.length) rfl (mx:=C) rfl (by omega) hroom (Nat.le_refl _) rfl)) ?_
  rw [Gh (show i+xs.length≠C by omega),cond_false]
  refine ⟨.sc (.bool false),.inr (.inl ⟨to_,tr,1,0,E.size,xs.length,xs.length,0,0+(i+xs.length)*E.size,E.size,l.length+xs.length-(i+xs.length),C-(i+xs.length),false,true||false,_,_,hfo,rfl,by decide,rfl,rfl,?_,rfl⟩),?_⟩
  ·intro h
   have h:A0 E l++List.replicate ((C-l.length)*E.size) AV.Es=[]:=h
   have:(A0 E l++List.replicate ((C-l.length)*E.size) AV.Es).length=0:=by rw [h];rfl
   rw [hbl] at this
   have:=Nat.mul_le_mul_right E.size (show 1≤l.length by omega)
   omega
  refine Agp ?_
  rw [Bool.not_false,cond_true]
  refine Dr ((s3 0 t 104 _ 0 (l.length+xs.length) C 0 true (Aa ((i+xs.length:Nat):Int)) .Es .Es).2.2.1.trans (Fu (Em (a:=i+xs.length)) (hi:=l.length+xs.length) rfl (mx:=C) rfl (by omega) hroom (Nat.le_refl _) rfl)) ?_
  rw [Gh (show i+xs.length≠C by omega),cond_false]
  refine Dr ((s3 0 t 107 _ 0 (l.length+xs.length) C 0 true (Aa (i:Int)) .Es .Es).2.2.1.trans (Fu (Em (a:=i)) (hi:=l.length+xs.length) rfl (mx:=C) rfl (by omega) hroom (Nat.le_refl _) rfl)) ?_
  rw [Gh (show i≠C by omega),cond_false]
  have hsub:(l.length+xs.length-i)*E.size=l.length*E.size+xs.length*E.size-i*E.size:=by rw [Nat.sub_mul,hmi]
  have hc1:∀look:Nat→Option Be,look 0=some ⟨A0 E l++List.replicate ((C-l.length)*E.size) .Es,e⟩→cellsOf look E.size (.sl 0 (0+i*E.size) E.size (l.length+xs.length-i) (C-i) true)=some (l.length+xs.length-i,((A0 E l++List.replicate ((C-l.length)*E.size) AV.Es).drop (i*E.size)).take ((l.length+xs.length-i)*E.size)):=by
   intro look h
   simp only [cellsOf,h,Nat.beq_refl,cond_true,Bool.and_true,hbl,Nat.zero_add]
   rw [Nat.ble_eq_true_of_le (by rw [hsub];omega),cond_true]
  have hmin2:Nat.min (l.length+xs.length-i) (l.length+xs.length-(i+xs.length))=l.length-i:=by
   rw [show l.length+xs.length-(i+xs.length)=l.length-i by omega];exact Nat.min_eq_right (by omega)
  have hsrc:(((A0 E l++List.replicate ((C-l.length)*E.size) AV.Es).drop (i*E.size)).take ((l.length+xs.length-i)*E.size)).take ((l.length-i)*E.size)=A0 E (l.drop i):=by
   rw [List.take_take,Nat.min_eq_left (Nat.mul_le_mul_right _ (by omega)),List.drop_append_of_le_length (by omega),Ij,List.take_append_of_le_length (by omega),← hda,List.take_length]
  refine Dr (T5 (m:=l.length+xs.length-i) (b:=⟨A0 E l++List.replicate ((C-l.length)*E.size) .Es,e⟩) hu hz (hc1 _ rfl) rfl (by
   show _≤(A0 E l++_).length
   rw [hbl,show l.length+xs.length-(i+xs.length)=l.length-i by omega,hli,him];omega) (by rw [hmin2,hsrc];exact Ew _)) ?_
  rw [hmin2,hsrc]
  refine C3 ?_
  refine Dm (by kernel_rfl) ?_
  refine B6 ((s3 0 t 111 _ 0 (l.length+xs.length) C 0 true (Aa (i:Int)) .Es .Es).2.2.1.trans (Fu (Em (a:=i)) (hi:=l.length+xs.length) rfl (mx:=C) rfl (by omega) hroom (Nat.le_refl _) rfl)) ?_
  rw [Gh (show i≠C by omega),cond_false]
  have hmin1:Nat.min xs.length (l.length+xs.length-i)=xs.length:=Nat.min_eq_left (by omega)
  refine Cz (T5 (m:=xs.length) (b:=⟨Dh (A0 E l++List.replicate ((C-l.length)*E.size) .Es) (0+(i+xs.length)*E.size) (A0 E (l.drop i)),e⟩) hu hz (hxc _ rfl) rfl (by
   have:(Dh (A0 E l++List.replicate ((C-l.length)*E.size) .Es) (0+(i+xs.length)*E.size) (A0 E (l.drop i))).length=C*E.size:=by
    unfold Dh
    simp only [List.length_append,List.length_take,List.length_drop,List.length_replicate,hel,hda,hU,hli,him]
    omega
   show _≤(Dh _ _ _).length
   rw [this,hsub];omega) (by rw [hmin1,← hex,List.take_length];exact Ew _)) ?_
  rw [hmin1,← hex,List.take_length]
  refine C3 ?_
  obtain ⟨rest,hrest⟩:=nY (A:=A0 E (l.take i)) (D:=A0 E (l.drop i)) (U:=List.replicate ((C-l.length)*E.size) AV.Es) (X:=A0 E xs) (p:=0+i*E.size) (q:=0+(i+xs.length)*E.size) (by rw [hta,Nat.zero_add]) (by rw [hex,him];omega) (by rw [hex,List.length_replicate,hU];omega)
  refine hR _ _ ⟨0,C,true,rest,?_,?_⟩
  ·rw [List.length_append,List.length_append,List.length_take,List.length_drop,show min i l.length+xs.length+(l.length-i)=l.length+xs.length by omega]
  ·show some (⟨Dh (Dh (A0 E l++List.replicate ((C-l.length)*E.size) .Es) (0+(i+xs.length)*E.size) (A0 E (l.drop i))) (0+i*E.size) (A0 E xs),e⟩:Be)=_
   rw [htd,hrest,Ds,Ds]
def aS (P:Program) (t e sz by_:Nat) (zs:List AV) (rest:Int→Int→Prop) (a0:AV) (a1:Int) (a2:AV) (m:Mem) (R:AV→Mem→Prop):Prop:=
  A4 (Ce P (.slice t (.tmp 0) (some (.tmp 1)) none none) t [a0,(AV.sc (.int .i64 a1))] (Al m) 4) fun v0=>
  A4 (Da a2) fun v1=>
  Ag v1 fun z2=>
  bif (z2==(0)) then (
  As R m [some a0]) else (
  A4 (Da a0) fun v3=>
  Ag v3 fun z4=>
  bif (a1==z4) then (
  Hi (app (Al m) e sz by_ zs 18 a0 a2) m fun v5 m5=>
  As R m5 [some v5]) else (rest z2 z4))
theorem Wk {t e sz by_ ty2:Nat} {zs:List AV} {xs:List α} (hu:P.underlying t=some (.slice e)) (hz:Df P e=some sz) (hs:E.size=sz) (hzl:zs.length=sz) (hx:xs≠[]) (hr1:(0+xs.length)*by_≤140737488355328) (hr2:0+xs.length≤4611686018427387904)
  (R:AV→Mem→Prop) (hR:∀u m,O1 E e xs u m→R u m) (m:Mem) (hm:m=[(0,some ⟨A0 E xs,ty2⟩)]) (a0:AV) (ha0:a0=.Ec 0 [] true) (a1:Int) (ha1:a1=0) (a2:AV) (ha2:a2=.sl 0 0 E.size xs.length xs.length false) (rest:Int→Int→Prop):
  aS P t e sz by_ zs rest a0 a1 a2 m R:=by
 subst hs hm ha0 ha1 ha2
 unfold aS
 have hm0:xs.length≠0:=fun h=>hx (List.eq_nil_of_length_eq_zero h)
 refine B6 (v:=.Ec 0 [] false) ?_ ?_
 ·refine ((Oc (yt:=0) (a:=Aa 0) (b:=.Es) hu hz).1).trans ?_
  simp only [Nf,show K2 0 (some (Aa 0))=some 0 from rfl,show K2 0 (none:Option AV)=some 0 from rfl,Nat.zero_mul,List.length_nil,List.drop_zero,List.take_zero,Nat.sub_self,Nat.zero_mul]
  rfl
 refine B6 (v:=Aa xs.length) rfl ?_
 refine C3 ?_
 rw [show (((xs.length:Nat):Int)==0)=false from beq_eq_false_iff_ne.2 (by omega),cond_false]
 refine B6 (v:=Aa ((0:Nat):Int)) rfl ?_
 refine C3 ?_
 rw [show ((0:Int)==((0:Nat):Int))=true from rfl,cond_true]
 have hxc:cellsOf (Al [(0,some ⟨A0 E xs,ty2⟩)]) E.size (.sl 0 0 E.size xs.length xs.length false)=some (xs.length,A0 E xs):=J4 rfl rfl rfl
 have hc0:cellsOf (Al [(0,some ⟨A0 E xs,ty2⟩)]) E.size (.Ec 0 [] true)=some (0,[]):=by
  simp only [cellsOf,Nat.zero_mul,List.length_nil,Nat.beq_refl,cond_true]
 refine Cz (v:=.sl 18 0 E.size (0+xs.length) (0+xs.length) false) (d:=[(18,some ⟨[]++A0 E xs,e⟩)]) ?_ ?_
 ·unfold app
  simp only [hxc,Gh hm0,cond_false,hc0,Nat.ble_eq_true_of_le hr1,Nat.ble_eq_true_of_le hr2,hzl,Nat.beq_refl,Nat.ble_eq_true_of_le E.pos,Ew,Br,List.length_nil,Nat.zero_mul,Bool.true_or,Bool.and_self,cond_true]
 ·refine hR _ _ ⟨18,0+xs.length,false,[],by rw [Nat.zero_add],?_⟩
  rw [List.append_nil,List.nil_append];rfl
theorem Ahq {n id wid ty ty2 by_:Nat} {look:Nat→Option Be} {f:FuncId} {l l0 xs xs0 y:List α} {i:Int} (hE:ScE E) (hl:l0.length=l.length) (hb:look id=Cn E ty l) (hl2:xs0.length=xs.length) (hb2:look wid=some ⟨A0 E xs,ty2⟩) (hid:id≠wid) (h:jM by_ l i xs=some y)
  (hF:∀(C k:Nat),l.length≤C→C≤maxLen→l≠[]→xs≠[]→k≤l.length→(l.length+xs.length)*by_≤140737488355328→l.length+xs.length≤4611686018427387904→Pb P gl [(0,some ⟨A0 E l++List.replicate ((C-l.length)*E.size) .Es,ty⟩),(1,some ⟨A0 E xs,ty2⟩)] 2 f [.sl 0 0 E.size l.length C true,Aa (k:Int),.sl 1 0 E.size xs.length xs.length false] (O1 E ty (l.take k++xs++l.drop k)))
  (hN:xs≠[]→(0+xs.length)*by_≤140737488355328→0+xs.length≤4611686018427387904→Pb P gl [(0,some ⟨A0 E xs,ty2⟩)] 1 f [.Ec 0 [] true,Aa 0,.sl 0 0 E.size xs.length xs.length false] (O1 E ty xs)):
  Dq P gl look n f [Bh E id l0,Aa i,Hk E wid xs0] (Bh E n y) [(n,Cn E ty y),(wid,none),(id,none)]:=by
 unfold jM at h
 split at h
 ·rename_i hc
  obtain ⟨h1,h2,h3,h4,h5⟩:=hc
  have hy:=Option.some.inj h
  obtain ⟨k,rfl⟩:=Int.eq_ofNat_of_zero_le h1
  rw [Int.toNat_natCast] at hy
  have hx:xs≠[]:=List.length_pos_iff.1 h3
  have hyne:y≠[]:=by
   intro e
   have:y.length=0:=by rw [e];rfl
   rw [← hy] at this
   simp only [List.length_append] at this
   omega
  rw [Fj hyne,C7 hyne]
  cases l with
  |nil=>
   have hl0:l0=[]:=List.eq_nil_of_length_eq_zero hl
   subst hl0
   simp only [List.length_nil] at h2 h4 h5
   have hk:k=0:=by omega
   subst hk
   have hxy:y=xs:=by rw [← hy];simp
   subst hxy
   exact iJ id (sI (i:=0) hE hl2 hb2 (hN hx h4 h5))
  |cons z l=>
   have hne:z::l≠[]:=by simp
   subst hy
   exact yH hE hl hne hb hl2 hx hb2 hid (by unfold maxLen;omega) (fun C h6 h7=>hF C k h6 h7 hne hx (by omega) h4 h5)
 ·cases h
def Av1 (E:En α) (id:Nat) (l:List α):AV:=match l with
 |[]=> .Ec 0 [] false
 |_::_=> .sl id 0 E.size l.length l.length false
end
end Go.Proofs.YtkdodbfnocdkdaaGreatDoor
