/- A part. -/
import Derived.Test.YtkdodbfnocdkdaaGreatDoorSm
import Derived.Test.YtkdodbfnocdkdaaGreatDoorX1G
import Derived.Test.YtkdodbfnocdkdaaGreatDoorX1F1
import Derived.Test.YtkdodbfnocdkdaaGreatDoorX1F2
import Derived.Test.YtkdodbfnocdkdaaGreatDoorX1F3
import Derived.Test.YtkdodbfnocdkdaaGreatDoorX1F4
set_option linter.unusedVariables false
set_option linter.unusedSimpArgs false
set_option maxRecDepth 100000
set_option maxHeartbeats 4000000
namespace Go.Proofs.YtkdodbfnocdkdaaGreatDoor
variable {R:AV→Mem→Prop} {N0 N1 N2 N3:St→Prop}
theorem Q3 {n:Nat} {look:Nat→Option Be} {l:List Ab} {u:Unit} (h:D0 l.length 48=some u):Dq pg KK.gl look n 62 [Ar Ab.E l] (Bh Ab.E n l) [(n,Cn Ab.E 135 l)]:=
 Om (by simp [Bk,clean,Bz]) (Ab1 _ _ (by
  unfold F62
  exact Qv (E:=Ab.E) rfl rfl h))
theorem cZ {n:Nat} {look:Nat→Option Be} {l:List Ah} {u:Unit} (h:D0 l.length 56=some u):Dq pg KK.gl look n 51 [Ar Ah.E l] (Bh Ah.E n l) [(n,Cn Ah.E 159 l)]:=
 Om (by simp [Bk,clean,Bz]) (Aeb _ _ (by
  unfold F51
  exact Qv (E:=Ah.E) rfl rfl h))
theorem yG {n:Nat} {look:Nat→Option Be} {l:List (List Ab)} {u:Unit} (h:D0 l.length 24=some u):Dq pg KK.gl look n 13 [Ar (Cr Ab.E) l] (Bh (Cr Ab.E) n l) [(n,Cn (Cr Ab.E) 32 l)]:=
 Om (by simp [Bk,clean,Bz]) (Ad3 _ _ (by
  unfold F13
  exact Qv (E:=(Cr Ab.E)) rfl rfl h))
theorem sR {n:Nat} {look:Nat→Option Be} {l:List Ao} {u:Unit} (h:D0 l.length 32=some u):Dq pg KK.gl look n 16 [Ar Ao.E l] (Bh Ao.E n l) [(n,Cn Ao.E 53 l)]:=
 Om (by simp [Bk,clean,Bz]) (Ad5 _ _ (by
  unfold F16
  exact Qv (E:=Ao.E) rfl rfl h))
theorem Afc {n id:Nat} {look:Nat→Option Be} {l0 l y:List Ah} {i j:Int} (hl:l0.length=l.length) (hb:look id=Cn Ah.E 159 l) (h:bX 56 l i j=some y):Dq pg KK.gl look n 53 [Bh Ah.E id l0,Aa i,Aa j] (Nh Ah.E n y) [(n,some ⟨A0 Ah.E y,159⟩),(id,none)]:=
 Ak0 (fun _=>rfl) hl hb h fun a b c r2 d e=>iU _ _ _ _ _ (by
  unfold tD
  exact pE B7 B7 rfl rfl B7 rfl c r2 d e _ (fun _ _ h=>h) _ rfl _ rfl _ _ rfl rfl)
noncomputable def Asy (c:Int) (d:AV) (m:Mem) (R:AV→Mem→Prop) (e f:Int) (a:AV):Prop:=
A4 (Ce pg (.slice 32 (.tmp 0) (some (.tmp 1)) none none) 32 [a,AV.sc (.int .i64 f)] (Al m) 102) fun g=>
Hi (Ce pg (.call ⟨.builtin .copy,#[.tmp 0,.tmp 1],#[32,31]⟩) 3 [g,d] (Al m) 104) m fun h b=>
Ag h fun l=>
A4 (Ce pg (.slice 32 (.tmp 0) (some (.tmp 1)) none none) 32 [a,AV.sc (.int .i64 c)] (Al b) 107) fun i=>
C1 pg KK.gl b 109 259 [i,AV.sc (.int .i64 e)] fun j k=>
Rr j<|
As R k [some a]
noncomputable def An7 (d:AV) (a:Int) (f:AV) (m:Mem) (R:AV→Mem→Prop) (c g:Int):Prop:=
A4 (Ce pg (.call ⟨.builtin .cap,#[.tmp 0],#[32]⟩) 3 [d] (Al m) 20) fun p=>
Ag p fun q=>
bif (decide ((IntKind.wrap .i64 (g+c))>q)) then (
A4 (Ce pg (.slice 32 (.tmp 0) none (some (.tmp 1)) none) 32 [d,AV.sc (.int .i64 a)] (Al m) 24) fun r=>
Hi (Ce pg (.call ⟨.builtin .append,#[.tmp 0,.tmp 1],#[32,3]⟩) 32 [r,AV.sc (.int .i64 (IntKind.wrap .i64 ((IntKind.wrap .i64 (g+c))-a)))] (Al m) 30) m fun e i=>
A4 (Ce pg (.slice 32 (.tmp 0) (some (.tmp 1)) none none) 32 [e,AV.sc (.int .i64 a)] (Al i) 34) fun s=>
Hi (Ce pg (.call ⟨.builtin .copy,#[.tmp 0,.tmp 1],#[32,31]⟩) 3 [s,f] (Al i) 36) i fun t h=>
Ag t fun ai=>
H0 (Ce pg (.slice 32 (.tmp 0) (some (.tmp 1)) none none) 32 [e,AV.sc (.int .i64 (IntKind.wrap .i64 (a+c)))] (Cy h (A3 e++(A3 (AV.sc (.int .i64 (IntKind.wrap .i64 (a+c))))++([])))) 41) fun j d13=>
H0 (Ce pg (.slice 32 (.tmp 0) (some (.tmp 1)) none none) 32 [d,AV.sc (.int .i64 a)] (Cy (Ad h d13) (A3 d++(A3 (AV.sc (.int .i64 a))++([])))) 44) fun k d14=>
H0 (Ce pg (.call ⟨.builtin .copy,#[.tmp 0,.tmp 1],#[32,32]⟩) 3 [j,k] (Cy (Ad (Ad h d13) d14) (A3 j++(A3 k++([])))) 45) fun u d15=>
Ag u fun aj=>
Ic (E3 [0,0,0,6,15,0,0,96,255] [⟨[],[]⟩,⟨[],[]⟩,⟨[],[]⟩,⟨[],[]⟩,⟨d13,A3 e++(A3 (AV.sc (.int .i64 (IntKind.wrap .i64 (a+c))))++([]))⟩,⟨[],[]⟩,⟨[],[]⟩,⟨d14,A3 d++(A3 (AV.sc (.int .i64 a))++([]))⟩,⟨d15,A3 j++(A3 k++([]))⟩]) (As R (Ad (Ad (Ad h d13) d14) d15) [some e])) else (
A4 (Ce pg (.slice 32 (.tmp 0) none (some (.tmp 1)) none) 32 [d,AV.sc (.int .i64 (IntKind.wrap .i64 (g+c)))] (Al m) 26) fun b=>
A4 (Ce pg (.slice 32 (.tmp 0) (some (.tmp 1)) none none) 32 [b,AV.sc (.int .i64 (IntKind.wrap .i64 (a+c)))] (Al m) 33) fun v=>
A2 pg KK.gl m 258 [f,v] fun w=>
Ha w fun x=>
bif (!x) then (
H0 (Ce pg (.slice 32 (.tmp 0) (some (.tmp 1)) none none) 32 [b,AV.sc (.int .i64 (IntKind.wrap .i64 (a+c)))] (Cy m (A3 b++(A3 (AV.sc (.int .i64 (IntKind.wrap .i64 (a+c))))++([])))) 103) fun l d21=>
H0 (Ce pg (.slice 32 (.tmp 0) (some (.tmp 1)) none none) 32 [b,AV.sc (.int .i64 a)] (Cy (Ad m d21) (A3 b++(A3 (AV.sc (.int .i64 a))++([])))) 106) fun n d22=>
H0 (Ce pg (.call ⟨.builtin .copy,#[.tmp 0,.tmp 1],#[32,32]⟩) 3 [l,n] (Cy (Ad (Ad m d21) d22) (A3 l++(A3 n++([])))) 107) fun y d23=>
Ag y fun ak=>
Ic (E3 [0,0,0,6,15,0,0,96,255] [⟨[],[]⟩,⟨[],[]⟩,⟨[],[]⟩,⟨[],[]⟩,⟨d21,A3 b++(A3 (AV.sc (.int .i64 (IntKind.wrap .i64 (a+c))))++([]))⟩,⟨[],[]⟩,⟨[],[]⟩,⟨d22,A3 b++(A3 (AV.sc (.int .i64 a))++([]))⟩,⟨d23,A3 l++(A3 n++([]))⟩]) (A4 (Ce pg (.slice 32 (.tmp 0) (some (.tmp 1)) none none) 32 [b,AV.sc (.int .i64 a)] (Al (Ad (Ad (Ad m d21) d22) d23)) 110) fun z=>
Hi (Ce pg (.call ⟨.builtin .copy,#[.tmp 0,.tmp 1],#[32,31]⟩) 3 [z,f] (Al (Ad (Ad (Ad m d21) d22) d23)) 112) (Ad (Ad (Ad m d21) d22) d23) fun aa ab=>
Ag aa fun al=>
As R ab [some b])) else (
A4 (Ce pg (.slice 32 (.tmp 0) (some (.tmp 1)) none none) 32 [b,AV.sc (.int .i64 g)] (Al m) 101) fun ad=>
Hi (Ce pg (.call ⟨.builtin .copy,#[.tmp 0,.tmp 1],#[32,31]⟩) 3 [ad,f] (Al m) 103) m fun ae o=>
Ag ae fun am=>
A4 (Ce pg (.slice 32 (.tmp 0) (some (.tmp 1)) none none) 32 [b,AV.sc (.int .i64 a)] (Al o) 106) fun af=>
C1 pg KK.gl o 108 259 [af,AV.sc (.int .i64 c)] fun ag ah=>
Rr ag<|
As R ah [some b]))
theorem Aek (c:AV) (a:Int) (b:AV) (m:Mem) (R:AV→Mem→Prop):gO pg KK.gl 32 3 135 6 48 258 [AV.sc (.int .i64 (0)),AV.sc (.int .i64 (0)),AV.sc (.int .i64 (0)),AV.sc (.int .i64 (0)),AV.sc (.int .i64 (0)),AV.sc (.int .i64 (0))] (Asy a b m R) c a b m R=Y6 c a b m R:=by kernel_rfl
theorem rM (a:AV) (b:Int) (c:AV) (m:Mem) (R:AV→Mem→Prop):aS pg 32 135 6 48 [AV.sc (.int .i64 (0)),AV.sc (.int .i64 (0)),AV.sc (.int .i64 (0)),AV.sc (.int .i64 (0)),AV.sc (.int .i64 (0)),AV.sc (.int .i64 (0))] (An7 a b c m R) a b c m R=Zn a b c m R:=by kernel_rfl
theorem Ae0:mI pg 258 31 4:=⟨⟨Tryz.f258,Tryz.func258,by kernel_rfl,by kernel_rfl,by kernel_rfl,by kernel_rfl⟩,⟨135,_,by kernel_rfl,Dk (n:=(Df pg 135).getD 0) B7⟩⟩
theorem Acu {l xs:List Ab} {C k:Nat} (hC:l.length≤C) (hCm:C≤maxLen) (hne:l≠[]) (hx:xs≠[]) (hk:k≤l.length) (d:(l.length+xs.length)*48≤140737488355328) (r2:l.length+xs.length≤4611686018427387904) (a:AV) (ha0:a=.sl 0 0 Ab.E.size l.length C true) (b:Int) (ha1:b=(k:Int)) (c:AV) (ha2:c=.sl 1 0 Ab.E.size xs.length xs.length false) (m:Mem) (hm:m=[(0,some ⟨A0 Ab.E l++List.replicate ((C-l.length)*Ab.E.size) .Es,135⟩),(1,some ⟨A0 Ab.E xs,135⟩)]):Y6 a b c m (O1 Ab.E 135 (l.take k++xs++l.drop k)):=by
 rw [← Aek]
 exact mX (P:=pg) (gl:=KK.gl) (E:=Ab.E) (t:=32) (e:=135) (sz:=6) (by_:=48) (fo:=258) (ty2:=135) (i:=k) (zs:=[AV.sc (.int .i64 (0)),AV.sc (.int .i64 (0)),AV.sc (.int .i64 (0)),AV.sc (.int .i64 (0)),AV.sc (.int .i64 (0)),AV.sc (.int .i64 (0))]) (l:=l) (xs:=xs) (C:=C) (f:=0) (nt:=0) (kk:=.i64) B7 B7 B7 B7 rfl rfl B7 Ae0 hC hCm hne hx hk d r2 (O1 Ab.E 135 (l.take k++xs++l.drop k)) (fun _ _ h=>h) m hm a ha0 b ha1 c ha2 _
theorem Adv {xs:List Ab} (hx:xs≠[]) (d:(0+xs.length)*48≤140737488355328) (r2:0+xs.length≤4611686018427387904) (a:AV) (ha0:a=.Ec 0 [] true) (b:Int) (ha1:b=0) (c:AV) (ha2:c=.sl 0 0 Ab.E.size xs.length xs.length false) (m:Mem) (hm:m=[(0,some ⟨A0 Ab.E xs,135⟩)]):Zn a b c m (O1 Ab.E 135 xs):=by
 rw [← rM]
 exact Wk B7 B7 rfl rfl hx d r2 _ (fun _ _ h=>h) m hm a ha0 b ha1 c ha2 _
theorem wG {n id wid:Nat} {look:Nat→Option Be} {l0 l xs0 xs y:List Ab} {i:Int} (hl:l0.length=l.length) (hb:look id=Cn Ab.E 135 l) (hl2:xs0.length=xs.length) (hb2:look wid=some ⟨A0 Ab.E xs,135⟩) (hid:id≠wid) (h:jM 48 l i xs=some y):Dq pg KK.gl look n 194 [Bh Ab.E id l0,Aa i,Hk Ab.E wid xs0] (Bh Ab.E n y) [(n,Cn Ab.E 135 y),(wid,none),(id,none)]:=
 Ahq (fun _=>rfl) hl hb hl2 hb2 hid h (fun C k hC hCm hne hx hk a r2=>eU _ _ _ _ _ (Acu hC hCm hne hx hk a r2 _ rfl _ rfl _ rfl _ rfl)) (fun hx a r2=>eY _ _ _ _ _ (Adv hx a r2 _ rfl _ rfl _ rfl _ rfl))
theorem Alr {S:Nat} (a:0<S) (hr:S*48≤281474976710656) (hr2:S≤4611686018427387904):pM AV.Bg (S:Int) (rS 0 6 0 S false ⟨rep [AV.sc (.int .i64 (0)),AV.sc (.int .i64 (0)),AV.sc (.int .i64 (0)),AV.sc (.int .i64 (0)),AV.sc (.int .i64 (0)),AV.sc (.int .i64 (0))] S,135⟩):=by
 unfold pM
 have b:decide ((S:Int)<0)=false:=decide_eq_false (by omega)
 rw [b,cond_false]
 refine B6 (v:=Aa 0) B7<|C3<|B6 (v:=Aa 0) rfl<|C3 ?_
 have c:IntKind.wrap .i64 ((0:Int)-0)=0:=by decide
 have f:IntKind.wrap .i64 ((S:Int)-IntKind.wrap .i64 ((0:Int)-0))=(S:Int):=by rw [c,wrap64 (by omega) (by omega)];omega
 rw [f]
 have g:decide ((S:Int)>0)=true:=decide_eq_true (by omega)
 rw [g,cond_true]
 exact B6 (v:=Aa 0) B7<|C3<|B6 (v:=.Bg) B7<|Cz (v:=.sl 18 0 6 S S false) (d:=[(18,some ⟨rep [AV.sc (.int .i64 (0)),AV.sc (.int .i64 (0)),AV.sc (.int .i64 (0)),AV.sc (.int .i64 (0)),AV.sc (.int .i64 (0)),AV.sc (.int .i64 (0))] S,135⟩)]) (gH.trans<|wK (e:=135) (sz:=6) (by_:=48) (zs:=[AV.sc (.int .i64 (0)),AV.sc (.int .i64 (0)),AV.sc (.int .i64 (0)),AV.sc (.int .i64 (0)),AV.sc (.int .i64 (0)),AV.sc (.int .i64 (0))]) (k:=.i64) B7 B7 B7 B7 B7 rfl rfl a hr hr2)<|B6 (v:=Aa 0) rfl<|C3<|B6 (v:=.sl 18 0 6 0 S false) ((J5 (e:=135) (sz:=6) (yt:=0) (y:=.Es) (z:=.Es) B7 B7).2.1.trans (Aip a))<|⟨18,rfl,rfl⟩
theorem Alc:pM AV.Bg 0 (fun u m=>freeze (Al m) 6 u=some .Bg):=by
 unfold pM
 have a:decide ((0:Int)<0)=false:=by decide
 rw [a,cond_false]
 refine B6 (v:=Aa 0) B7<|C3<|B6 (v:=Aa 0) rfl<|C3 ?_
 have b:decide (IntKind.wrap .i64 ((0:Int)-IntKind.wrap .i64 ((0:Int)-0))>0)=false:=by decide
 rw [b,cond_false]
 exact (rfl:freeze (Al []) 6 AV.Bg=some AV.Bg)
theorem Aid {L:List (List Ab)} {y:List Ab} (h:Vb 48 L=some y):F63 (Ar (Cr Ab.E) L) (Pa Ab.E 135 y):=by
 obtain ⟨rfl,hL,hr,hr2⟩:=mQ h
 have hz:([AV.sc (.int .i64 (0)),AV.sc (.int .i64 (0)),AV.sc (.int .i64 (0)),AV.sc (.int .i64 (0)),AV.sc (.int .i64 (0)),AV.sc (.int .i64 (0))]:List AV).length=Ab.E.size:=rfl
 unfold F63
 refine B6 (v:=Aa L.length) rfl<|C3 ?_
 have hcl:clean (Ar (Cr Ab.E) L)=true:=L9 _ _
 refine Anm _ (σ:=Nat) (fun k=>k≤L.length) (fun _=>Ar (Cr Ab.E) L) (fun _=>AV.Bg) (fun k=>((L.take k).flatten.length:Int)) (fun _=>Ar (Cr Ab.E) L) (fun _=>(L.length:Int)) (fun k=>(k:Int)) (fun _=>[]) (fun k=>L.length-k) ?_ 0 (Nat.zero_le _)
  (Tz rfl (Dx rfl hcl (Dx rfl rfl (Dx rfl rfl (Dx rfl hcl (Dx rfl rfl (Dx rfl rfl trivial)))))))
 intro k hk
 show mH (Ar (Cr Ab.E) L) AV.Bg ((L.take k).flatten.length:Int) (Ar (Cr Ab.E) L) (L.length:Int) (k:Int) [] _ _
 have hfk:=aU (L:=L) k
 unfold mH
 refine Qz (fun hc=> ?_) fun hc=> ?_
 ·have hlt:k<L.length:=by have:=of_decide_eq_true hc;omega
  have hfk1:=aU (L:=L) (k+1)
  have hsn:=Yj hlt
  have hln:(L.take (k+1)).flatten.length=(L.take k).flatten.length+(L[k]).length:=by rw [hsn,List.length_append]
  refine B6 (Q6 (E:=Cr Ab.E) rfl L false k hlt)<|B6 (Zy (x:=Ar Ab.E L[k]) rfl)<|B6 (v:=Aa (L[k]).length) rfl<|C3 ?_
  have f:IntKind.wrap .i64 (((L.take k).flatten.length:Int)+((L[k]).length:Int))=((L.take (k+1)).flatten.length:Int):=by rw [wrap64 (by omega) (by omega)];omega
  have a:IntKind.wrap .i64 ((k:Int)+1)=((k+1:Nat):Int):=by rw [wrap64 (by omega) (by omega)];omega
  rw [f,a]
  exact Qz (fun hc=>by have:=of_decide_eq_true hc;omega) fun _=>⟨k+1,hlt,by omega,Tz rfl (Dx rfl hcl (Dx rfl rfl (Dx rfl rfl (Dx rfl hcl (Dx rfl rfl (Dx rfl rfl trivial))))))⟩
 ·have hkk:k=L.length:=by have:=of_decide_eq_false hc;omega
  subst hkk
  rw [List.take_length]
  generalize hS:L.flatten.length=S at*
  have hlenS:Da (Ar (Cr Ab.E) L)=some (Aa L.length,[]):=rfl
  by_cases c:S=0
  ·subst c
   have hFl:L.flatten=[]:=List.eq_nil_of_length_eq_zero hS
   have hel:∀(k:Nat) (h:k<L.length),L[k]=[]:=fun k h=>by
    have:=List.flatten_eq_nil_iff.1 hFl L[k] (List.getElem_mem h);exact this
   refine G5 (v:=.Bg) (Yo rfl rfl (bW _ _ _ Alc))<|B6 hlenS<|C3<|Aga _ (σ:=Nat) (fun k=>k≤L.length) (fun _=>AV.Bg) (fun _=>AV.Bg) (fun _=>Ar (Cr Ab.E) L) (fun _=>(L.length:Int)) (fun k=>(k:Int)) (fun _=>[]) (fun k=>L.length-k) ?_ 0 (Nat.zero_le _)
    (Tz rfl (Dx rfl rfl (Dx rfl rfl (Dx rfl hcl (Dx rfl rfl (Dx rfl rfl trivial))))))
   intro k hk
   show Xp AV.Bg AV.Bg (Ar (Cr Ab.E) L) (L.length:Int) (k:Int) [] _ _
   unfold Xp
   refine Qz (fun hc=> ?_) fun hc=> ?_
   ·have hlt:k<L.length:=by have:=of_decide_eq_true hc;omega
    refine B6 (Q6 (E:=Cr Ab.E) rfl L false k hlt)<|B6 (Zy (x:=Ar Ab.E L[k]) rfl) ?_
    rw [hel k hlt]
    refine Cz (oM (E:=Ab.E)) ?_
    have a:IntKind.wrap .i64 ((k:Int)+1)=((k+1:Nat):Int):=by rw [wrap64 (by omega) (by omega)];omega
    rw [a]
    exact ⟨k+1,hlt,by omega,Tz rfl (Dx rfl rfl (Dx rfl rfl (Dx rfl hcl (Dx rfl rfl (Dx rfl rfl trivial)))))⟩
   ·rw [hFl];exact C8
  ·refine Ea (eC (n:=100002) (b:=⟨rep [AV.sc (.int .i64 (0)),AV.sc (.int .i64 (0)),AV.sc (.int .i64 (0)),AV.sc (.int .i64 (0)),AV.sc (.int .i64 (0)),AV.sc (.int .i64 (0))] S,135⟩) rfl (R8 rfl S) (bW _ _ _ (Alr (by omega) hr hr2)))<|B6 hlenS<|C3 ?_
   have hbc:∀k,Bk (A0 Ab.E (L.take k).flatten++rep [AV.sc (.int .i64 (0)),AV.sc (.int .i64 (0)),AV.sc (.int .i64 (0)),AV.sc (.int .i64 (0)),AV.sc (.int .i64 (0)),AV.sc (.int .i64 (0))] (S-(L.take k).flatten.length))=true:=fun k=>by rw [It,Bz,R8 rfl];rfl
   refine Aga _ (σ:=Nat) (fun k=>k≤L.length) (fun _=>AV.Bg) (fun k=> .sl 90000 0 Ab.E.size (L.take k).flatten.length S false) (fun _=>Ar (Cr Ab.E) L) (fun _=>(L.length:Int)) (fun k=>(k:Int)) (fun k=>[(90000,some ⟨A0 Ab.E (L.take k).flatten++rep [AV.sc (.int .i64 (0)),AV.sc (.int .i64 (0)),AV.sc (.int .i64 (0)),AV.sc (.int .i64 (0)),AV.sc (.int .i64 (0)),AV.sc (.int .i64 (0))] (S-(L.take k).flatten.length),135⟩)]) (fun k=>L.length-k) ?_ 0 (Nat.zero_le _)
    (Dd [(90000,100002)] rfl rfl rfl (oR (oR (Fv (Kt _ _) (oR (oR D2))))) (Az (A8 (hbc 0) rfl) Dc))
   intro k hk
   show Xp AV.Bg (.sl 90000 0 Ab.E.size (L.take k).flatten.length S false) (Ar (Cr Ab.E) L) (L.length:Int) (k:Int) [(90000,some ⟨A0 Ab.E (L.take k).flatten++rep [AV.sc (.int .i64 (0)),AV.sc (.int .i64 (0)),AV.sc (.int .i64 (0)),AV.sc (.int .i64 (0)),AV.sc (.int .i64 (0)),AV.sc (.int .i64 (0))] (S-(L.take k).flatten.length),135⟩)] _ _
   unfold Xp
   refine Qz (fun hc=> ?_) fun hc=> ?_
   ·have hlt:k<L.length:=by have:=of_decide_eq_true hc;omega
    have hfk1:=aU (L:=L) (k+1)
    have hsn:=Yj hlt
    have hln:(L.take (k+1)).flatten.length=(L.take k).flatten.length+(L[k]).length:=by rw [hsn,List.length_append]
    refine B6 (Q6 (E:=Cr Ab.E) rfl L false k hlt)<|B6 (Zy (x:=Ar Ab.E L[k]) rfl) ?_
    have a:IntKind.wrap .i64 ((k:Int)+1)=((k+1:Nat):Int):=by rw [wrap64 (by omega) (by omega)];omega
    rw [a]
    obtain ⟨d,hd1,hd2⟩:=Adz (E:=Ab.E) (look:=Al [(90000,some ⟨A0 Ab.E (L.take k).flatten++rep [AV.sc (.int .i64 (0)),AV.sc (.int .i64 (0)),AV.sc (.int .i64 (0)),AV.sc (.int .i64 (0)),AV.sc (.int .i64 (0)),AV.sc (.int .i64 (0))] (S-(L.take k).flatten.length),135⟩)]) (e:=135) (by_:=48) (n:=200006) (id:=90000) (ty:=135) (S:=S) (xs:=L[k]) hz rfl (by omega) hr hr2
    refine Cz hd1 ?_
    have hb:Al (Ad [(90000,some ⟨A0 Ab.E (L.take k).flatten++rep [AV.sc (.int .i64 (0)),AV.sc (.int .i64 (0)),AV.sc (.int .i64 (0)),AV.sc (.int .i64 (0)),AV.sc (.int .i64 (0)),AV.sc (.int .i64 (0))] (S-(L.take k).flatten.length),135⟩)] d) 90000=some ⟨A0 Ab.E (L.take (k+1)).flatten++rep [AV.sc (.int .i64 (0)),AV.sc (.int .i64 (0)),AV.sc (.int .i64 (0)),AV.sc (.int .i64 (0)),AV.sc (.int .i64 (0)),AV.sc (.int .i64 (0))] (S-(L.take (k+1)).flatten.length),135⟩:=by
     rcases hd2 with rfl|⟨rfl,he⟩
     ·rw [hsn,List.length_append];rfl
     ·rw [hsn,he,List.append_nil];rfl
    exact ⟨k+1,hlt,by omega,Dd [(90000,90000)] rfl rfl rfl (oR (Fv (.inl (by rw [hln];exact Ll _)) (Fv (Kt _ _) (oR (oR D2))))) (Az (A8 (hbc (k+1)) hb) Dc)⟩
   ·have hkk:k=L.length:=by have:=of_decide_eq_false hc;omega
    subst hkk
    rw [List.take_length,hS,Nat.sub_self]
    refine .inr ⟨by rintro e;rw [e] at hS;exact c hS.symm,90000,S,false,by rw [hS],?_⟩
    simp [Al,rep]
theorem Ahp {n:Nat} {look:Nat→Option Be} {args:List AV} {L:List (List Ab)} {y:List Ab} (h:Vb 48 L=some y) (hs:aV look 6 args [Ar (Cr Ab.E) L]):Dq pg KK.gl look n 63 args (Bh Ab.E n y) [(n,Cn Ab.E 135 y)]:=mY (fun _=>rfl) hs (Ab6 _ _ (Aid h))
theorem Ajl (n:Nat) (a:Db) {t:Aie} (hR:E5 t (fun r=>Dv ((Aa r))) R):gB n a=some t→F64 a.Bf a.A9 R:=by
 unfold gB F64
 exact cr hR<|cr hR<|cr hR<|cr hR<|rt hR
theorem Acs {n:Nat} {a:Db} {t:Aie} (h:gB n a=some t):Ci pg KK.gl 64 [AV.agg [Aa a.Bf,Aa a.A9]] ((Aa t)):=
 sF Tryz.func64 (Ajl n a Fb h)
theorem Ahu (n:Nat) (a:TP) {t:Ake} (hR:E5 t (fun r=>Dv ((Aa r))) R):Ty n a=some t→F59 a.X a.Y R:=by
 unfold Ty F59
 exact cr hR<|cr hR<|cr hR<|cr hR<|rt hR
theorem cY {n:Nat} {a:TP} {t:Ake} (h:Ty n a=some t):Ci pg KK.gl 59 [AV.agg [Aa a.X,Aa a.Y]] ((Aa t)):=
 sF Tryz.func59 (Ahu n a Fb h)
theorem rF (n:Nat) (c:List Ab) (d e f:Int) {t:(Int)⊕zP} (hR:O8 t (fun r=>Dv ((Aa r))) R) (hN0:K3 86 t (fun y=>Amk (Ar Ab.E c) d (Ar Ab.E c) e y []) N0):K6 n c d e f=some t→Afh (Ar Ab.E c) d (Ar Ab.E c) e f [] R N0:=by
 unfold K6 Afh
 exact cb (Ax fun b g=>iq (AV.Cq [Aa b.Ac,Aa b.Ak,Aa b.Aj,Aa b.Af,Aa b.Aw,Aa b.Bi] 0) (Cc (E:=Ab.E) rfl g)<|iq (AV.agg [Aa b.Ac,Aa b.Ak,Aa b.Aj,Aa b.Af,Aa b.Aw,Aa b.Bi]) rfl<|e6<|ei<|ei<|ei<|ei<|ei<|ei<|cr hR<|cr hR<|cb (Ax fun a h=>iq (AV.Cq [Aa a.Ac,Aa a.Ak,Aa a.Aj,Aa a.Af,Aa a.Aw,Aa a.Bi] 0) (Cc (E:=Ab.E) rfl h)<|iq (AV.Cq [Aa a.Ac,Aa a.Ak,Aa a.Aj,Aa a.Af,Aa a.Aw,Aa a.Bi] 0) rfl<|iq (AV.Cq [Aa a.Ac,Aa a.Ak,Aa a.Aj,Aa a.Af,Aa a.Aw,Aa a.Bi] 0) rfl<|iq (Aa a.Ac) rfl<|ei<|cr hR<|bS cY fun i=>ei<|cr hR<|cr hR<|cr hR<|cr hR<|cr hR<|cr hR<|cr hR<|nN hN0 rfl (wM []))<|bS cY fun j=>ei<|cr hR<|cr hR<|cr hR<|cr hR<|cr hR<|cr hR<|cr hR<|nN hN0 rfl (wM []))<|rt hR
theorem Ai7 (n:Nat) (a:List Ab) {t:zP} (hR:E5 t (fun r=>Dv ((Aa r))) R):Kg n a=some t→F42 (Ar Ab.E a) R:=by
 unfold Kg F42
 exact iq (Aa (a.length:Int)) rfl<|ei<|cr hR<|iq (Aa (a.length:Int)) rfl<|ei<|cr hR<|iq (Aa (a.length:Int)) rfl<|ei<|fun hg=>Kc hg (fun y _ _ g=>rF n a (0) (a.length:Int) y (Nr hR g)) (wM [])
theorem oC {n:Nat} {a:List Ab} {t:zP} (h:Kg n a=some t):Ci pg KK.gl 42 [Ar Ab.E a] ((Aa t)):=
 sF Tryz.func42 (Ai7 n a Fb h)
theorem vY (n:Nat) (a:Int) (b:List (List Ab)) (c d:Int) {t:(Int)⊕xE} (hR:O8 t (fun r=>Dv ((Aa r))) R) (hN0:K3 26 t (fun y=>Alu a (Ar (Cr Ab.E) b) c y []) N0):mM n a b c d=some t→Agn a (Ar (Cr Ab.E) b) c d [] R N0:=by
 unfold mM Agn
 exact cb (Ax fun e f=>iq (AV.Cq [Ar Ab.E e] 0) (Cc (E:=(Cr Ab.E)) rfl f)<|iq (Ar Ab.E e) rfl<|bS oC fun g=>ei<|cr hR<|nN hN0 rfl (wM []))<|rt hR
theorem Akh (n:Nat) (b:Db) (a:List (List Ab)) {t:xE} (hR:E5 t (fun r=>Dv ((Aa r))) R):g65 n b a=some t→F65 b.Bf b.A9 (Ar (Cr Ab.E) a) R:=by
 unfold g65 F65
 exact bS Acs fun c=>ei<|cr hR<|iq (Aa (a.length:Int)) rfl<|ei<|fun hg=>Kc hg (fun y _ _ g=>vY n (0) a (a.length:Int) y (Nr hR g)) (wM [])
theorem Aky {n:Nat} {a:Db} {b:List (List Ab)} {t:xE} (h:g65 n a b=some t):Ci pg KK.gl 65 [AV.agg [Aa a.Bf,Aa a.A9],Ar (Cr Ab.E) b] ((Aa t)):=
 sF Tryz.func65 (Akh n a b Fb h)
theorem Adr (n:Nat) (e f:List Ab) {t:u9} (hR:E5 t (fun r=>Dv ((AV.Bn [Aa r.1,Aa r.2]))) R):Wi n e f=some t→Aqd (Ar Ab.E e) (Ar Ab.E f) R:=by
 unfold Wi Aqd
 exact Ax fun a g=>iq (AV.Cq [Aa a.Ac,Aa a.Ak,Aa a.Aj,Aa a.Af,Aa a.Aw,Aa a.Bi] 0) (Cc (E:=Ab.E) rfl g)<|iq (AV.Cq [Aa a.Ac,Aa a.Ak,Aa a.Aj,Aa a.Af,Aa a.Aw,Aa a.Bi] 0) rfl<|iq (AV.Cq [Aa a.Ac,Aa a.Ak,Aa a.Aj,Aa a.Af,Aa a.Aw,Aa a.Bi] 0) rfl<|iq (Aa a.Ac) rfl<|ei<|Ax fun b h=>iq (AV.Cq [Aa b.Ac,Aa b.Ak,Aa b.Aj,Aa b.Af,Aa b.Aw,Aa b.Bi] 0) (Cc (E:=Ab.E) rfl h)<|iq (AV.Cq [Aa b.Ac,Aa b.Ak,Aa b.Aj,Aa b.Af,Aa b.Aw,Aa b.Bi] 0) rfl<|iq (AV.Cq [Aa b.Ac,Aa b.Ak,Aa b.Aj,Aa b.Af,Aa b.Aw,Aa b.Bi] 0) rfl<|iq (Aa b.Ac) rfl<|ei<|iq (Aa (if b.Ac>a.Ac then b.Ac else a.Ac)) B7<|ei<|iq (Aa (e.length:Int)) rfl<|ei<|Ax fun c i=>iq (AV.Cq [Aa c.Ac,Aa c.Ak,Aa c.Aj,Aa c.Af,Aa c.Aw,Aa c.Bi] 0) (Cc (E:=Ab.E) rfl i)<|iq (AV.Cq [Aa c.Ac,Aa c.Ak,Aa c.Aj,Aa c.Af,Aa c.Aw,Aa c.Bi] 0) rfl<|iq (AV.Cq [Aa c.Ac,Aa c.Ak,Aa c.Aj,Aa c.Af,Aa c.Aw,Aa c.Bi] 0) rfl<|iq (Aa c.Ac) rfl<|ei<|iq (Aa (f.length:Int)) rfl<|ei<|Ax fun d j=>iq (AV.Cq [Aa d.Ac,Aa d.Ak,Aa d.Aj,Aa d.Af,Aa d.Aw,Aa d.Bi] 0) (Cc (E:=Ab.E) rfl j)<|iq (AV.Cq [Aa d.Ac,Aa d.Ak,Aa d.Aj,Aa d.Af,Aa d.Aw,Aa d.Bi] 0) rfl<|iq (AV.Cq [Aa d.Ac,Aa d.Ak,Aa d.Aj,Aa d.Af,Aa d.Aw,Aa d.Bi] 0) rfl<|iq (Aa d.Ac) rfl<|ei<|iq (Aa (if d.Ac<c.Ac then d.Ac else c.Ac)) B7<|ei<|r2 hR
theorem Ap3 {n:Nat} {a:List Ab} {b:List Ab} {t:u9} (h:Wi n a b=some t):Ci pg KK.gl 138 [Ar Ab.E a,Ar Ab.E b] ((AV.Bn [Aa t.1,Aa t.2])):=
 sF Tryz.func138 (Adr n a b Fb h)
theorem Abl (n:Nat) (c:List Ab) {t:yI} (hR:E5 t (fun r=>Dv ((AV.Bn [Aa r.1,Aa r.2]))) R):xY n c=some t→Apz (Ar Ab.E c) R:=by
 unfold xY Apz
 exact Ax fun a d=>iq (AV.Cq [Aa a.Ac,Aa a.Ak,Aa a.Aj,Aa a.Af,Aa a.Aw,Aa a.Bi] 0) (Cc (E:=Ab.E) rfl d)<|iq (AV.Cq [Aa a.Ac,Aa a.Ak,Aa a.Aj,Aa a.Af,Aa a.Aw,Aa a.Bi] 0) rfl<|iq (AV.Cq [Aa a.Ac,Aa a.Ak,Aa a.Aj,Aa a.Af,Aa a.Aw,Aa a.Bi] 0) rfl<|iq (Aa a.Ac) rfl<|ei<|iq (Aa (c.length:Int)) rfl<|ei<|Ax fun b e=>iq (AV.Cq [Aa b.Ac,Aa b.Ak,Aa b.Aj,Aa b.Af,Aa b.Aw,Aa b.Bi] 0) (Cc (E:=Ab.E) rfl e)<|iq (AV.Cq [Aa b.Ac,Aa b.Ak,Aa b.Aj,Aa b.Af,Aa b.Aw,Aa b.Bi] 0) rfl<|iq (AV.Cq [Aa b.Ac,Aa b.Ak,Aa b.Aj,Aa b.Af,Aa b.Aw,Aa b.Bi] 0) rfl<|iq (Aa b.Ac) rfl<|ei<|r2 hR
theorem Anu {n:Nat} {a:List Ab} {t:yI} (h:xY n a=some t):Ci pg KK.gl 131 [Ar Ab.E a] ((AV.Bn [Aa t.1,Aa t.2])):=
 sF Tryz.func131 (Abl n a Fb h)
theorem Abe (n:Nat) (a:Ab) (b:Int) {t:uB} (hR:E5 t (fun r=>Dv ((Aa r))) R):iZ n a b=some t→Anz a.Ac a.Ak a.Aj a.Af a.Aw a.Bi b R:=by
 unfold iZ Anz
 exact rt hR
theorem Afu {n:Nat} {a:Ab} {b:Int} {t:uB} (h:iZ n a b=some t):Ci pg KK.gl 187 [AV.agg [Aa a.Ac,Aa a.Ak,Aa a.Aj,Aa a.Af,Aa a.Aw,Aa a.Bi],Aa b] ((Aa t)):=
 sF Tryz.func187 (Abe n a b Fb h)
theorem nQ (n:Nat) (e:List Ab) (f c6:Int) (c7:Bool) (c8 c d:Int) {t:(Int×Int)⊕eB} (hR:O8 t (fun r=>Dv ((AV.Bn [Aa r.1,Ai r.2]))) R) (hN0:K3 49 t (fun y=>Ah3 (Ar Ab.E e) f (AV.fn 187 []) c6 c7 c8 y.1 y.2 []) N0):Vy n e f c6 c7 c8 c d=some t→wI (Ar Ab.E e) f (AV.fn 187 []) c6 c7 c8 c d [] R N0:=by
 unfold Vy wI
 exact cb (iq (AV.sc (.int .u64 (IntKind.wrap .u64 (IntKind.wrap .i64 (c+d))))) B7<|eu<|imp (B6 (show _=some ((AV.sc (.int .u64 (Int.fdiv (IntKind.wrap .u64 (IntKind.wrap .i64 (c+d))) 2))),[]) from uZ))<|eu<|iq (Aa (IntKind.wrap .i64 (Int.fdiv (IntKind.wrap .u64 (IntKind.wrap .i64 (c+d))) 2))) B7<|ei<|Ax fun a g=>iq (AV.Cq [Aa a.Ac,Aa a.Ak,Aa a.Aj,Aa a.Af,Aa a.Aw,Aa a.Bi] 0) (Cc (E:=Ab.E) rfl g)<|iq (AV.agg [Aa a.Ac,Aa a.Ak,Aa a.Aj,Aa a.Af,Aa a.Aw,Aa a.Bi]) rfl<|e6<|ei<|ei<|ei<|ei<|ei<|ei<|Ax fun k h=>imp G7<|imp (kB rfl)<|cS (Afu h)<|ei<|cb (nN hN0 rfl (wM []))<|nN hN0 rfl (wM []))<|cb (Ax fun b i=>iq (AV.Cq [Aa b.Ac,Aa b.Ak,Aa b.Aj,Aa b.Af,Aa b.Aw,Aa b.Bi] 0) (Cc (E:=Ab.E) rfl i)<|iq (AV.agg [Aa b.Ac,Aa b.Ak,Aa b.Aj,Aa b.Af,Aa b.Aw,Aa b.Bi]) rfl<|e6<|ei<|ei<|ei<|ei<|ei<|ei<|Ax fun l j=>imp G7<|imp (kB rfl)<|cS (Afu j)<|ei<|r2 hR)<|r2 hR
theorem Ab0 (n:Nat) (a:List Ab) (b:Int) {t:eB} (hR:E5 t (fun r=>Dv ((AV.Bn [Aa r.1,Ai r.2]))) R):oL n a b=some t→Amu (Ar Ab.E a) b (AV.fn 187 []) R:=by
 unfold oL Amu
 exact iq (Aa (a.length:Int)) rfl<|ei<|fun hg=>Kc hg (fun y _ _ g=>nQ n a b (0) false (a.length:Int) y.1 y.2 (Nr hR g)) (wM [])
theorem Aqi {n:Nat} {a:List Ab} {b:Int} {t:eB} (h:oL n a b=some t):Ci pg KK.gl 186 [Ar Ab.E a,Aa b,AV.fn 187 []] ((AV.Bn [Aa t.1,Ai t.2])):=
 sF Tryz.func186 (Ab0 n a b Fb h)
theorem Aew (n:Nat) (a b:Int) {t:uT} (hR:E5 t (fun r=>Dv ((AV.Bn [Aa r.1,Aa r.2]))) R):O3 n a b=some t→Aoo a b R:=by
 unfold O3 Aoo
 exact cb (r2 hR)<|cb (cb (r2 hR)<|Ax fun c d=>iq (Aa (IntKind.wrap .i64 c)) (Ql d)<|ei<|Ax fun e f=>iq (Aa e) (aR f)<|ei<|cb (iq (Ai (!((decide (a<(0)))==(decide (b<(0)))))) B7<|eb<|cb (r2 hR)<|r2 hR)<|r2 hR)<|Ax fun g h=>iq (Aa (IntKind.wrap .i64 g)) (Ql h)<|ei<|Ax fun i j=>iq (Aa i) (aR j)<|ei<|cb (iq (Ai (!((decide (a<(0)))==(decide (b<(0)))))) B7<|eb<|cb (r2 hR)<|r2 hR)<|r2 hR
theorem dS {n:Nat} {a:Int} {b:Int} {t:uT} (h:O3 n a b=some t):Ci pg KK.gl 189 [Aa a,Aa b] ((AV.Bn [Aa t.1,Aa t.2])):=
 sF Tryz.func189 (Aew n a b Fb h)
theorem Acp (n:Nat) (a b:TP) (e f:Int) {t:uH} (hR:E5 t (fun r=>Dv ((AV.Bn [AV.agg (TP.E.enc r.1),Aa r.2]))) R):V9 n a b e f=some t→Am1 a.X a.Y b.X b.Y e f R:=by
 unfold V9 Am1
 exact cb (iq (AV.agg [Aa (0),Aa (0)]) rfl<|imp (Ba (sz:=2) B7 B7 rfl rfl (cs:=[Aa (0),Aa (0)]) (cs':=[Aa (0),Aa (0)]) (ty:=46) Bv rfl rfl)<|rN rfl hR rfl rfl (Bd (El (E:=TP.E) _ (⟨0,0⟩:TP)) (fS Bs)))<|cb (iq (AV.agg [Aa (0),Aa (0)]) rfl<|imp (Ba (sz:=2) B7 B7 rfl rfl (cs:=[Aa (0),Aa (0)]) (cs':=[Aa (0),Aa (0)]) (ty:=46) Bv rfl rfl)<|rN rfl hR rfl rfl (Bd (El (E:=TP.E) _ (⟨0,0⟩:TP)) (fS Bs)))<|cb (iq (AV.agg [Aa (0),Aa (0)]) rfl<|imp (Ba (sz:=2) B7 B7 rfl rfl (cs:=[Aa (0),Aa (0)]) (cs':=[Aa (0),Aa (0)]) (ty:=46) Bv rfl rfl)<|rN rfl hR rfl rfl (Bd (El (E:=TP.E) _ (⟨0,0⟩:TP)) (fS Bs)))<|cb (iq (AV.agg [Aa (0),Aa (0)]) rfl<|imp (Ba (sz:=2) B7 B7 rfl rfl (cs:=[Aa (0),Aa (0)]) (cs':=[Aa (0),Aa (0)]) (ty:=46) Bv rfl rfl)<|rN rfl hR rfl rfl (Bd (El (E:=TP.E) _ (⟨0,0⟩:TP)) (fS Bs)))<|bS cY fun g=>ei<|cb (iq (AV.agg [Aa (0),Aa (0)]) rfl<|bS cY fun h=>ei<|imp (Ba (sz:=2) B7 B7 rfl rfl (cs:=[Aa (0),Aa (0)]) (cs':=[Aa (0),Aa (0)]) (ty:=46) Bv rfl rfl)<|rN rfl hR rfl rfl (Bd (El (E:=TP.E) _ (⟨0,0⟩:TP)) (fS Bs)))<|bS cY fun i=>ei<|cb (iq (AV.agg [Aa (0),Aa (0)]) rfl<|bS cY fun j=>ei<|imp (Ba (sz:=2) B7 B7 rfl rfl (cs:=[Aa (0),Aa (0)]) (cs':=[Aa (0),Aa (0)]) (ty:=46) Bv rfl rfl)<|rN rfl hR rfl rfl (Bd (El (E:=TP.E) _ (⟨0,0⟩:TP)) (fS Bs)))<|bS dS fun c=>et<|ei<|ei<|bS dS fun d=>et<|ei<|ei<|iq (AV.agg [Aa (IntKind.wrap .i64 (a.X+c.1)),Aa (IntKind.wrap .i64 (a.Y+d.1))]) rfl<|imp (Ba (sz:=2) B7 B7 rfl rfl (cs:=[Aa (0),Aa (0)]) (cs':=[Aa (IntKind.wrap .i64 (a.X+c.1)),Aa (IntKind.wrap .i64 (a.Y+d.1))]) (ty:=46) Bv rfl rfl)<|rN rfl hR rfl rfl (Bd (El (E:=TP.E) _ (⟨IntKind.wrap .i64 (a.X+c.1),IntKind.wrap .i64 (a.Y+d.1)⟩:TP)) (fS Bs))
theorem Anr {n:Nat} {a:TP} {b:TP} {c:Int} {d:Int} {t:uH} (h:V9 n a b c d=some t):Ci pg KK.gl 188 [AV.agg [Aa a.X,Aa a.Y],AV.agg [Aa b.X,Aa b.Y],Aa c,Aa d] ((AV.Bn [AV.agg (TP.E.enc t.1),Aa t.2])):=
 sF Tryz.func188 (Acp n a b c d Fb h)
theorem Ad2 (n:Nat) (a b:Int) {t:yR} (hR:E5 t (fun r=>Dv ((AV.Bn [Aa r.1,Aa r.2]))) R):Me n a b=some t→Ap6 a b R:=by
 unfold Me Ap6
 exact bS dS fun e=>et<|ei<|ei<|cb (Ax fun c d=>iq (Aa c) (aR d)<|ei<|cb (r2 hR)<|r2 hR)<|r2 hR
theorem Xi {n:Nat} {a:Int} {b:Int} {t:yR} (h:Me n a b=some t):Ci pg KK.gl 190 [Aa a,Aa b] ((AV.Bn [Aa t.1,Aa t.2])):=
 sF Tryz.func190 (Ad2 n a b Fb h)
theorem Aa8 (n:Nat) (j:List Ab) (f:Int) {t:sK} (hR:E5 t (fun r=>Dv ((AV.agg (Ab.E.enc r)))) R):P1 n j f=some t→Ap8 (Ar Ab.E j) f R:=by
 unfold P1 Ap8
 exact Ax fun p k=>imp (G5 (Aqi k))<|et<|ei<|eb<|cb (Ax fun d l=>iq (AV.Cq [Aa d.Ac,Aa d.Ak,Aa d.Aj,Aa d.Af,Aa d.Aw,Aa d.Bi] 0) (Cc (E:=Ab.E) rfl l)<|iq (AV.agg [Aa d.Ac,Aa d.Ak,Aa d.Aj,Aa d.Af,Aa d.Aw,Aa d.Bi]) rfl<|e6<|ei<|ei<|ei<|ei<|ei<|ei<|imp (Ba (sz:=6) B7 B7 rfl rfl (cs:=[Aa (0),Aa (0),Aa (0),Aa (0),Aa (0),Aa (0)]) (cs':=[Aa d.Ac,Aa d.Ak,Aa d.Aj,Aa d.Af,Aa d.Aw,Aa d.Bi]) (ty:=135) Bv rfl rfl)<|fun hg=>Zd (hR _ (Option.some.inj hg).symm) (El (E:=Ab.E) _ d))<|Ax fun a m=>imp (Dr (show _=some ((AV.Cq [Aa a.Ac,Aa a.Ak,Aa a.Aj,Aa a.Af,Aa a.Aw,Aa a.Bi] 0),[]) from (Cc (E:=Ab.E) rfl m)))<|imp (Dr (show _=some ((AV.agg [Aa a.Ac,Aa a.Ak,Aa a.Aj,Aa a.Af,Aa a.Aw,Aa a.Bi]),[]) from rfl))<|e6<|ei<|ei<|ei<|ei<|ei<|ei<|Ax fun c o=>imp (Dr (show _=some ((AV.Cq [Aa c.Ac,Aa c.Ak,Aa c.Aj,Aa c.Af,Aa c.Aw,Aa c.Bi] 0),[]) from (Cc (E:=Ab.E) rfl o)))<|imp (Dr (show _=some ((AV.agg [Aa c.Ac,Aa c.Ak,Aa c.Aj,Aa c.Af,Aa c.Aw,Aa c.Bi]),[]) from rfl))<|e6<|ei<|ei<|ei<|ei<|ei<|ei<|imp (Ba (sz:=6) B7 B7 rfl rfl (cs:=[Aa (0),Aa (0),Aa (0),Aa (0),Aa (0),Aa (0)]) (cs':=[Aa a.Ac,Aa a.Ak,Aa a.Aj,Aa a.Af,Aa a.Aw,Aa a.Bi]) (ty:=135) (by first|rfl|(rw [Fo (by first|rfl|simp [Fp]|simp [A3])];first|rfl|(simp (disch:=first|decide|assumption) only [lk]))) rfl rfl)<|imp (Ba (sz:=6) B7 B7 rfl rfl (cs:=[Aa (0),Aa (0),Aa (0),Aa (0),Aa (0),Aa (0)]) (cs':=[Aa c.Ac,Aa c.Ak,Aa c.Aj,Aa c.Af,Aa c.Aw,Aa c.Bi]) (ty:=135) (by first|rfl|(rw [Fo (by first|rfl|simp [Fp]|simp [A3])];first|rfl|(simp (disch:=first|decide|assumption) only [lk]))) rfl rfl)<|imp (Dm B7)<|iq (Aa a.Ac) (Cf (b:=⟨[Aa a.Ac,Aa a.Ak,Aa a.Aj,Aa a.Af,Aa a.Aw,Aa a.Bi],135⟩) Bv rfl)<|ei<|iq (Aa c.Ac) (Cf (b:=⟨[Aa c.Ac,Aa c.Ak,Aa c.Aj,Aa c.Af,Aa c.Aw,Aa c.Bi],135⟩) Bv rfl)<|ei<|iq (Aa a.Ac) (Cf (b:=⟨[Aa a.Ac,Aa a.Ak,Aa a.Aj,Aa a.Af,Aa a.Aw,Aa a.Bi],135⟩) Bv rfl)<|ei<|iq (AV.agg [Aa a.Ak,Aa a.Aj]) (C2 (b:=⟨[Aa a.Ac,Aa a.Ak,Aa a.Aj,Aa a.Af,Aa a.Aw,Aa a.Bi],135⟩) Bv rfl)<|e2<|ei<|ei<|iq (AV.agg [Aa c.Ak,Aa c.Aj]) (C2 (b:=⟨[Aa c.Ac,Aa c.Ak,Aa c.Aj,Aa c.Af,Aa c.Aw,Aa c.Bi],135⟩) Bv rfl)<|e2<|ei<|ei<|bS Anr fun e=>et<|e2<|ei<|ei<|ei<|iq (Aa c.Af) (Cf (b:=⟨[Aa c.Ac,Aa c.Ak,Aa c.Aj,Aa c.Af,Aa c.Aw,Aa c.Bi],135⟩) Bv rfl)<|ei<|iq (Aa a.Af) (Cf (b:=⟨[Aa a.Ac,Aa a.Ak,Aa a.Aj,Aa a.Af,Aa a.Aw,Aa a.Bi],135⟩) Bv rfl)<|ei<|bS dS fun g=>et<|ei<|ei<|iq (Aa c.Aw) (Cf (b:=⟨[Aa c.Ac,Aa c.Ak,Aa c.Aj,Aa c.Af,Aa c.Aw,Aa c.Bi],135⟩) Bv rfl)<|ei<|iq (Aa a.Aw) (Cf (b:=⟨[Aa a.Ac,Aa a.Ak,Aa a.Aj,Aa a.Af,Aa a.Aw,Aa a.Bi],135⟩) Bv rfl)<|ei<|bS Xi fun h=>et<|ei<|ei<|iq (Aa c.Bi) (Cf (b:=⟨[Aa c.Ac,Aa c.Ak,Aa c.Aj,Aa c.Af,Aa c.Aw,Aa c.Bi],135⟩) Bv rfl)<|ei<|iq (Aa a.Bi) (Cf (b:=⟨[Aa a.Ac,Aa a.Ak,Aa a.Aj,Aa a.Af,Aa a.Aw,Aa a.Bi],135⟩) Bv rfl)<|ei<|bS Xi fun i=>et<|ei<|ei<|iq (Aa a.Af) (Cf (b:=⟨[Aa a.Ac,Aa a.Ak,Aa a.Aj,Aa a.Af,Aa a.Aw,Aa a.Bi],135⟩) Bv rfl)<|ei<|iq (AV.agg [Aa f,Aa e.1.X,Aa e.1.Y,Aa (IntKind.wrap .i64 (a.Af+g.1))]) rfl<|iq (Aa a.Aw) (Cf (b:=⟨[Aa a.Ac,Aa a.Ak,Aa a.Aj,Aa a.Af,Aa a.Aw,Aa a.Bi],135⟩) Bv rfl)<|ei<|iq (Aa a.Bi) (Cf (b:=⟨[Aa a.Ac,Aa a.Ak,Aa a.Aj,Aa a.Af,Aa a.Aw,Aa a.Bi],135⟩) Bv rfl)<|ei<|iq (AV.agg [Aa f,Aa e.1.X,Aa e.1.Y,Aa (IntKind.wrap .i64 (a.Af+g.1)),Aa (IntKind.wrap .i64 (a.Aw+h.1)),Aa (IntKind.wrap .i64 (a.Bi+i.1))]) rfl<|imp (Ba (sz:=6) B7 B7 rfl rfl (cs:=[Aa (0),Aa (0),Aa (0),Aa (0),Aa (0),Aa (0)]) (cs':=[Aa f,Aa e.1.X,Aa e.1.Y,Aa (IntKind.wrap .i64 (a.Af+g.1)),Aa (IntKind.wrap .i64 (a.Aw+h.1)),Aa (IntKind.wrap .i64 (a.Bi+i.1))]) (ty:=135) Bv rfl rfl)<|fun hg=>Zd (hR _ (Option.some.inj hg).symm) (El (E:=Ab.E) _ (⟨f,e.1.X,e.1.Y,IntKind.wrap .i64 (a.Af+g.1),IntKind.wrap .i64 (a.Aw+h.1),IntKind.wrap .i64 (a.Bi+i.1)⟩:Ab))
theorem Amz {n:Nat} {a:List Ab} {b:Int} {t:sK} (h:P1 n a b=some t):Ci pg KK.gl 132 [Ar Ab.E a,Aa b] ((AV.agg (Ab.E.enc t))):=
 sF Tryz.func132 (Aa8 n a b Fb h)
theorem Akj (n:Nat) (a:List Ab) (b:Int) {t:Ahr} (hR:E5 t (fun r=>Dv ((AV.Bn [AV.agg (Ab.E.enc r.1),Aa r.2]))) R):S0 n a b=some t→F60 (Ar Ab.E a) b R:=by
 unfold S0 F60
 exact bS oC fun d=>ei<|cb (iq (AV.agg [Aa (0),Aa (0),Aa (0),Aa (0),Aa (0),Aa (0)]) rfl<|imp (Ba (sz:=6) B7 B7 rfl rfl (cs:=[Aa (0),Aa (0),Aa (0),Aa (0),Aa (0),Aa (0)]) (cs':=[Aa (0),Aa (0),Aa (0),Aa (0),Aa (0),Aa (0)]) (ty:=135) Bv rfl rfl)<|rN rfl hR rfl rfl (Bd (El (E:=Ab.E) _ (⟨0,0,0,0,0,0⟩:Ab)) (fS Bs)))<|bS Anu fun e=>et<|ei<|ei<|cb (iq (AV.agg [Aa (0),Aa (0),Aa (0),Aa (0),Aa (0),Aa (0)]) rfl<|imp (Ba (sz:=6) B7 B7 rfl rfl (cs:=[Aa (0),Aa (0),Aa (0),Aa (0),Aa (0),Aa (0)]) (cs':=[Aa (0),Aa (0),Aa (0),Aa (0),Aa (0),Aa (0)]) (ty:=135) Bv rfl rfl)<|rN rfl hR rfl rfl (Bd (El (E:=Ab.E) _ (⟨0,0,0,0,0,0⟩:Ab)) (fS Bs)))<|cb (iq (AV.agg [Aa (0),Aa (0),Aa (0),Aa (0),Aa (0),Aa (0)]) rfl<|imp (Ba (sz:=6) B7 B7 rfl rfl (cs:=[Aa (0),Aa (0),Aa (0),Aa (0),Aa (0),Aa (0)]) (cs':=[Aa (0),Aa (0),Aa (0),Aa (0),Aa (0),Aa (0)]) (ty:=135) Bv rfl rfl)<|rN rfl hR rfl rfl (Bd (El (E:=Ab.E) _ (⟨0,0,0,0,0,0⟩:Ab)) (fS Bs)))<|bS Amz fun c=>e6<|ei<|ei<|ei<|ei<|ei<|ei<|rN rfl hR rfl rfl (Bd (El (E:=Ab.E) _ c) (fS Bs))
theorem tB {n:Nat} {a:List Ab} {b:Int} {t:Ahr} (h:S0 n a b=some t):Ci pg KK.gl 60 [Ar Ab.E a,Aa b] ((AV.Bn [AV.agg (Ab.E.enc t.1),Aa t.2])):=
 sF Tryz.func60 (Akj n a b Fb h)
theorem Acl (n:Nat) (a b:TP) {t:Aaq} (hR:E5 t (fun r=>Dv ((AV.agg (TP.E.enc r)))) R):bP n a b=some t→Api a.X a.Y b.X b.Y R:=by
 unfold bP Api
 exact iq (AV.agg [Aa (IntKind.wrap .i64 (a.X-b.X)),Aa (IntKind.wrap .i64 (a.Y-b.Y))]) rfl<|imp (Ba (sz:=2) B7 B7 rfl rfl (cs:=[Aa (0),Aa (0)]) (cs':=[Aa (IntKind.wrap .i64 (a.X-b.X)),Aa (IntKind.wrap .i64 (a.Y-b.Y))]) (ty:=46) Bv rfl rfl)<|fun hg=>Zd (hR _ (Option.some.inj hg).symm) (El (E:=TP.E) _ (⟨IntKind.wrap .i64 (a.X-b.X),IntKind.wrap .i64 (a.Y-b.Y)⟩:TP))
theorem Afj {n:Nat} {a:TP} {b:TP} {t:Aaq} (h:bP n a b=some t):Ci pg KK.gl 178 [AV.agg [Aa a.X,Aa a.Y],AV.agg [Aa b.X,Aa b.Y]] ((AV.agg (TP.E.enc t))):=
 sF Tryz.func178 (Acl n a b Fb h)
theorem Ade (n:Nat) (a b:TP) {t:Aae} (hR:E5 t (fun r=>Dv ((Aa r))) R):oP n a b=some t→Am2 a.X a.Y b.X b.Y R:=by
 unfold oP Am2
 exact rt hR
theorem Aoe {n:Nat} {a:TP} {b:TP} {t:Aae} (h:oP n a b=some t):Ci pg KK.gl 301 [AV.agg [Aa a.X,Aa a.Y],AV.agg [Aa b.X,Aa b.Y]] ((Aa t)):=
 sF Tryz.func301 (Ade n a b Fb h)
theorem Aeu (n:Nat) (a b:TP) {t:vZ} (hR:E5 t (fun r=>Dv ((Aa r))) R):Wa n a b=some t→Apy a.X a.Y b.X b.Y R:=by
 unfold Wa Apy
 exact bS Afj fun c=>e2<|ei<|ei<|bS Aoe fun d=>ei<|rt hR
theorem Anh {n:Nat} {a:TP} {b:TP} {t:vZ} (h:Wa n a b=some t):Ci pg KK.gl 246 [AV.agg [Aa a.X,Aa a.Y],AV.agg [Aa b.X,Aa b.Y]] ((Aa t)):=
 sF Tryz.func246 (Aeu n a b Fb h)
theorem nH (n:Nat) (a b c d:Int) {t:(Int×Int)⊕dH} (hR:O8 t (fun r=>Dv ((Aa r))) R) (hN0:K3 27 t (fun y=>Ajx a b y.1 y.2 []) N0):Mp n a b c d=some t→vQ a b c d [] R N0:=by
 unfold Mp vQ
 exact cb (cb (nN hN0 rfl (wM []))<|nN hN0 rfl (wM []))<|rt hR
theorem Adk (n:Nat) (a:Int) {t:dH} (hR:E5 t (fun r=>Dv ((Aa r))) R):dU n a=some t→Anc a R:=by
 unfold dU Anc
 exact cr hR<|fun hg=>Kc hg (fun y _ _ g=>nH n a (0) y.1 y.2 (Nr hR g)) (wM [])
theorem Amc {n:Nat} {a:Int} {t:dH} (h:dU n a=some t):Ci pg KK.gl 247 [Aa a] ((Aa t)):=
 sF Tryz.func247 (Adk n a Fb h)
theorem Aej (n:Nat) (a b:TP) {t:uF} (hR:E5 t (fun r=>Dv ((AV.Bn [Aa r.1,Aa r.2]))) R):Mf n a b=some t→Anv a.X a.Y b.X b.Y R:=by
 unfold Mf Anv
 exact bS Anh fun c=>ei<|bS Amc fun d=>ei<|cb (r2 hR)<|r2 hR
theorem fX {n:Nat} {a:TP} {b:TP} {t:uF} (h:Mf n a b=some t):Ci pg KK.gl 179 [AV.agg [Aa a.X,Aa a.Y],AV.agg [Aa b.X,Aa b.Y]] ((AV.Bn [Aa t.1,Aa t.2])):=
 sF Tryz.func179 (Aej n a b Fb h)
theorem Ady (n:Nat) (a b:Ab) (c:Db) {t:uP} (hR:E5 t (fun r=>Dv ((Ai r))) R):Wf n a b c=some t→Ann a.Ac a.Ak a.Aj a.Af a.Aw a.Bi b.Ac b.Ak b.Aj b.Af b.Aw b.Bi c.Bf c.A9 R:=by
 unfold Wf Ann
 exact bS fX fun d=>et<|ei<|ei<|cr hR<|iq (Aa (if (IntKind.wrap .i64 (b.Af-a.Af))>(IntKind.wrap .i64 (a.Af-b.Af)) then (IntKind.wrap .i64 (b.Af-a.Af)) else (IntKind.wrap .i64 (a.Af-b.Af)))) B7<|ei<|rt hR
theorem An8 {n:Nat} {a:Ab} {b:Ab} {c:Db} {t:uP} (h:Wf n a b c=some t):Ci pg KK.gl 139 [AV.agg [Aa a.Ac,Aa a.Ak,Aa a.Aj,Aa a.Af,Aa a.Aw,Aa a.Bi],AV.agg [Aa b.Ac,Aa b.Ak,Aa b.Aj,Aa b.Af,Aa b.Aw,Aa b.Bi],AV.agg [Aa c.Bf,Aa c.A9]] ((Ai t)):=
 sF Tryz.func139 (Ady n a b c Fb h)
theorem qN (n:Nat) (c d:List Ab) (c9 e f a:Int) (b:List Bq) {t:(Int×List Bq)⊕oB} (hR:O8 t (fun r=>Dv ((Ar Bq.E r))) R) (hN0:K3 73 t (fun y=>Aps (Ar Ab.E c) (Ar Ab.E d) AV.Bg (Bh Bq.E 90000 y.2) c9 y.1 e f [(90000,Cn Bq.E 89 y.2)]) N0):U1 n c d c9 e f a b=some t→Af4 (Ar Ab.E c) (Ar Ab.E d) AV.Bg (Bh Bq.E 90000 b) c9 a e f [(90000,Cn Bq.E 89 b)] R N0:=by
 unfold U1 Af4
 exact cb (bS tB fun q=>et<|e6<|ei<|ei<|ei<|ei<|ei<|ei<|ei<|bS tB fun s=>et<|e6<|ei<|ei<|ei<|ei<|ei<|ei<|ei<|bS An8 fun u=>eb<|cb (nN hN0 rfl (wM [(90000,90000),(0,0)]))<|imp (B6 (show _=some ((Aa (b.length:Int)),[]) from Gx))<|ei<|cb (Ax fun j g=>iq (AV.ptr 90000 ((((IntKind.wrap .i64 ((b.length:Int)-(1))):Int).toNat)*2+0)) (Gi (E:=Bq.E) rfl g)<|iq (AV.ptr 90000 ((((IntKind.wrap .i64 ((b.length:Int)-(1))):Int).toNat)*2+1)) rfl<|iq (Aa j.To) (Kn (E:=Bq.E) (l:=b) (ty:=89) (o:=1) (Ft (ty:=89) Bv (B3 g).2) (B3 g).2 rfl (by decide) rfl)<|ei<|cb (Ax fun k h=>iq (AV.ptr 90000 ((((IntKind.wrap .i64 ((b.length:Int)-(1))):Int).toNat)*2+0)) (Gi (E:=Bq.E) rfl h)<|iq (AV.ptr 90000 ((((IntKind.wrap .i64 ((b.length:Int)-(1))):Int).toNat)*2+1)) rfl<|imp (Jn (E:=Bq.E) (l:=b) (i:=(((IntKind.wrap .i64 ((b.length:Int)-(1))):Int).toNat)) (o:=1) (y:=(⟨k.Cs,IntKind.wrap .i64 (a+(1))⟩:Bq)) (ty:=89) B7 B7 rfl Bv (B3 h).2 rfl (by decide) rfl)<|nN hN0 rfl (wM [(90000,90000),(0,0)]))<|iq (AV.agg [Aa a,Aa (IntKind.wrap .i64 (a+(1)))]) rfl<|imp (Cz (show _=some ((Hk Bq.E 100234 ([(⟨a,IntKind.wrap .i64 (a+(1))⟩:Bq)]:List Bq)),[(100234,some ⟨A0 Bq.E ([(⟨a,IntKind.wrap .i64 (a+(1))⟩:Bq)]:List Bq),89⟩)]) from rfl))<|Ax fun v m=>imp (Cz (show _=some ((Bh Bq.E 100235 (b++([(⟨a,IntKind.wrap .i64 (a+(1))⟩:Bq)]:List Bq))),(Jf Bq.E 100235 90000 89 b ([(⟨a,IntKind.wrap .i64 (a+(1))⟩:Bq)]:List Bq))) from (H6 (E:=Bq.E) (l':=b) (xs:=([(⟨a,IntKind.wrap .i64 (a+(1))⟩:Bq)]:List Bq)) rfl rfl (Ed (E:=Bq.E) (ty:=89) rfl rfl Bv) qB rfl (fun hne=>Eq.trans Bv (C7 hne)) m)))<|nN hN0 rfl (wM [(90000,100235),(0,0)]))<|iq (AV.agg [Aa a,Aa (IntKind.wrap .i64 (a+(1)))]) rfl<|imp (Cz (show _=some ((Hk Bq.E 100226 ([(⟨a,IntKind.wrap .i64 (a+(1))⟩:Bq)]:List Bq)),[(100226,some ⟨A0 Bq.E ([(⟨a,IntKind.wrap .i64 (a+(1))⟩:Bq)]:List Bq),89⟩)]) from rfl))<|Ax fun w p=>imp (Cz (show _=some ((Bh Bq.E 100227 (b++([(⟨a,IntKind.wrap .i64 (a+(1))⟩:Bq)]:List Bq))),(Jf Bq.E 100227 90000 89 b ([(⟨a,IntKind.wrap .i64 (a+(1))⟩:Bq)]:List Bq))) from (H6 (E:=Bq.E) (l':=b) (xs:=([(⟨a,IntKind.wrap .i64 (a+(1))⟩:Bq)]:List Bq)) rfl rfl (Ed (E:=Bq.E) (ty:=89) rfl rfl Bv) qB rfl (fun hne=>Eq.trans Bv (C7 hne)) p)))<|nN hN0 rfl (wM [(90000,100227),(0,0)]))<|fun hg=>Zd (hR _ (Option.some.inj hg).symm) (P5 (E:=Bq.E) (ty:=89) (l':=b) _ rfl Bv)
theorem Agx (n:Nat) (b c:List Ab) (a:Db) {t:oB} (hR:E5 t (fun r=>Dv ((Ar Bq.E r))) R):jT n b c a=some t→F66 (Ar Ab.E b) (Ar Ab.E c) a.Bf a.A9 R:=by
 unfold jT F66
 exact bS Ap3 fun d=>et<|ei<|ei<|fun hg=>Kc hg (fun y _ _ g=>qN n b c d.2 a.Bf a.A9 y.1 y.2 (Nr hR g)) (wM [(90000,89500),(0,0)])
theorem Aih {n:Nat} {b:List Ab} {c:List Ab} {a:Db} {t:oB} (h:jT n b c a=some t):Ci pg KK.gl 66 [Ar Ab.E b,Ar Ab.E c,AV.agg [Aa a.Bf,Aa a.A9]] ((Ar Bq.E t)):=
 sF Tryz.func66 (Agx n b c a Fb h)
theorem Ag5 (n:Nat) (c d:List Ab) (a:Db) {t:Ajn} (hR:E5 t (fun r=>Dv ((AV.Bn [Ar Bq.E r.1,Aa r.2]))) R):g85 n c d a=some t→F85 (Ar Ab.E c) (Ar Ab.E d) a.Bf a.A9 R:=by
 unfold g85 F85
 exact imp (Cz (show _=some ((Hk (Cr Ab.E) 6 ([c,d]:List (List Ab))),[(6,some ⟨A0 (Cr Ab.E) ([c,d]:List (List Ab)),32⟩)]) from rfl))<|Ax fun f e=>imp (G8 (E1 (A7 (Zg _ (A7 (Di _ _) (A7 (Di _ _) C0))) (A7 (iP (E:=(Cr Ab.E)) (ty:=32) (l':=([c,d]:List (List Ab))) _ (Cr.nf Ab.E) rfl Bv) C0)) (Aky e) rfl))<|ei<|cb (rN rfl hR rfl rfl (Bd (Du (E:=Bq.E) _) (fS Bs)))<|iq (AV.agg [Aa a.Bf,Aa a.A9]) (C2 (b:=⟨[Aa a.Bf,Aa a.A9],24⟩) Bv rfl)<|e2<|ei<|ei<|bS Aih fun g=>rN rfl hR rfl rfl (Bd (yK (E:=Bq.E) _ _ false) (fS Bs))
theorem Arb {n:Nat} {b:List Ab} {c:List Ab} {a:Db} {t:Ajn} (h:g85 n b c a=some t):Ci pg KK.gl 85 [Ar Ab.E b,Ar Ab.E c,AV.agg [Aa a.Bf,Aa a.A9]] ((AV.Bn [Ar Bq.E t.1,Aa t.2])):=
 sF Tryz.func85 (Ag5 n b c a Fb h)
end Go.Proofs.YtkdodbfnocdkdaaGreatDoor
