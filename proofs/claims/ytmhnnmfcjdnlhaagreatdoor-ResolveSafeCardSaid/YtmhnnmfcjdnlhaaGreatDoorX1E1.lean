/- A part. -/
import Derived.Test.YtmhnnmfcjdnlhaaGreatDoorX1G
import Derived.Test.YtmhnnmfcjdnlhaaGreatDoorX1F1
import Derived.Test.YtmhnnmfcjdnlhaaGreatDoorX1F2
import Derived.Test.YtmhnnmfcjdnlhaaGreatDoorX1F3
import Derived.Test.YtmhnnmfcjdnlhaaGreatDoorX1F4
set_option linter.unusedVariables false
set_option linter.unusedSimpArgs false
set_option maxRecDepth 100000
set_option maxHeartbeats 4000000
namespace Go.Proofs.YtmhnnmfcjdnlhaaGreatDoor
theorem Nn {n:Nat} {look:Nat→Option B5} {l:List Ab} {u:Unit} (h:Fc l.length 48=some u):E3 pg KK.gl look n 32 [As Ab.E l] (B7 Ab.E n l) [(n,C7 Ab.E 47 l)]:=
 gJ (by simp [Av,clean,Al]) (vO _ _ (by
  unfold F32
  exact nU (E:=Ab.E) rfl rfl h))
noncomputable def J65 (c:Int) (d:AV) (m:Mem) (R:AV→Mem→Prop) (e f:Int) (a:AV):Prop:=
Bo (Cs pg (.slice 32 (.tmp 0) (some (.tmp 1)) none none) 32 [a,AV.sc (.int .i64 f)] (Am m) 102) fun g=>
Il (Cs pg (.call ⟨.builtin .copy,#[.tmp 0,.tmp 1],#[32,31]⟩) 3 [g,d] (Am m) 104) m fun h b=>
Af h fun l=>
Bo (Cs pg (.slice 32 (.tmp 0) (some (.tmp 1)) none none) 32 [a,AV.sc (.int .i64 c)] (Am b) 107) fun i=>
Ez pg KK.gl b 109 80 [i,AV.sc (.int .i64 e)] fun j k=>
X5 j<|
A2 R k [some a]
noncomputable def Agf (d:AV) (a:Int) (f:AV) (m:Mem) (R:AV→Mem→Prop) (c g:Int):Prop:=
Bo (Cs pg (.call ⟨.builtin .cap,#[.tmp 0],#[32]⟩) 3 [d] (Am m) 20) fun p=>
Af p fun q=>
bif (decide ((IntKind.wrap .i64 (g+c))>q)) then (
Bo (Cs pg (.slice 32 (.tmp 0) none (some (.tmp 1)) none) 32 [d,AV.sc (.int .i64 a)] (Am m) 24) fun r=>
Il (Cs pg (.call ⟨.builtin .append,#[.tmp 0,.tmp 1],#[32,3]⟩) 32 [r,AV.sc (.int .i64 (IntKind.wrap .i64 ((IntKind.wrap .i64 (g+c))-a)))] (Am m) 30) m fun e i=>
Bo (Cs pg (.slice 32 (.tmp 0) (some (.tmp 1)) none none) 32 [e,AV.sc (.int .i64 a)] (Am i) 34) fun s=>
Il (Cs pg (.call ⟨.builtin .copy,#[.tmp 0,.tmp 1],#[32,31]⟩) 3 [s,f] (Am i) 36) i fun t h=>
Af t fun ai=>
J4 (Cs pg (.slice 32 (.tmp 0) (some (.tmp 1)) none none) 32 [e,AV.sc (.int .i64 (IntKind.wrap .i64 (a+c)))] (Dw h (Bv e++(Bv (AV.sc (.int .i64 (IntKind.wrap .i64 (a+c))))++([])))) 41) fun j d13=>
J4 (Cs pg (.slice 32 (.tmp 0) (some (.tmp 1)) none none) 32 [d,AV.sc (.int .i64 a)] (Dw (Ag h d13) (Bv d++(Bv (AV.sc (.int .i64 a))++([])))) 44) fun k d14=>
J4 (Cs pg (.call ⟨.builtin .copy,#[.tmp 0,.tmp 1],#[32,32]⟩) 3 [j,k] (Dw (Ag (Ag h d13) d14) (Bv j++(Bv k++([])))) 45) fun u d15=>
Af u fun aj=>
Jj (F4 [0,0,0,6,15,0,0,96,255] [⟨[],[]⟩,⟨[],[]⟩,⟨[],[]⟩,⟨[],[]⟩,⟨d13,Bv e++(Bv (AV.sc (.int .i64 (IntKind.wrap .i64 (a+c))))++([]))⟩,⟨[],[]⟩,⟨[],[]⟩,⟨d14,Bv d++(Bv (AV.sc (.int .i64 a))++([]))⟩,⟨d15,Bv j++(Bv k++([]))⟩]) (A2 R (Ag (Ag (Ag h d13) d14) d15) [some e])) else (
Bo (Cs pg (.slice 32 (.tmp 0) none (some (.tmp 1)) none) 32 [d,AV.sc (.int .i64 (IntKind.wrap .i64 (g+c)))] (Am m) 26) fun b=>
Bo (Cs pg (.slice 32 (.tmp 0) (some (.tmp 1)) none none) 32 [b,AV.sc (.int .i64 (IntKind.wrap .i64 (a+c)))] (Am m) 33) fun v=>
Bd pg KK.gl m 79 [f,v] fun w=>
Hr w fun x=>
bif (!x) then (
J4 (Cs pg (.slice 32 (.tmp 0) (some (.tmp 1)) none none) 32 [b,AV.sc (.int .i64 (IntKind.wrap .i64 (a+c)))] (Dw m (Bv b++(Bv (AV.sc (.int .i64 (IntKind.wrap .i64 (a+c))))++([])))) 103) fun l d21=>
J4 (Cs pg (.slice 32 (.tmp 0) (some (.tmp 1)) none none) 32 [b,AV.sc (.int .i64 a)] (Dw (Ag m d21) (Bv b++(Bv (AV.sc (.int .i64 a))++([])))) 106) fun n d22=>
J4 (Cs pg (.call ⟨.builtin .copy,#[.tmp 0,.tmp 1],#[32,32]⟩) 3 [l,n] (Dw (Ag (Ag m d21) d22) (Bv l++(Bv n++([])))) 107) fun y d23=>
Af y fun ak=>
Jj (F4 [0,0,0,6,15,0,0,96,255] [⟨[],[]⟩,⟨[],[]⟩,⟨[],[]⟩,⟨[],[]⟩,⟨d21,Bv b++(Bv (AV.sc (.int .i64 (IntKind.wrap .i64 (a+c))))++([]))⟩,⟨[],[]⟩,⟨[],[]⟩,⟨d22,Bv b++(Bv (AV.sc (.int .i64 a))++([]))⟩,⟨d23,Bv l++(Bv n++([]))⟩]) (Bo (Cs pg (.slice 32 (.tmp 0) (some (.tmp 1)) none none) 32 [b,AV.sc (.int .i64 a)] (Am (Ag (Ag (Ag m d21) d22) d23)) 110) fun z=>
Il (Cs pg (.call ⟨.builtin .copy,#[.tmp 0,.tmp 1],#[32,31]⟩) 3 [z,f] (Am (Ag (Ag (Ag m d21) d22) d23)) 112) (Ag (Ag (Ag m d21) d22) d23) fun aa ab=>
Af aa fun al=>
A2 R ab [some b])) else (
Bo (Cs pg (.slice 32 (.tmp 0) (some (.tmp 1)) none none) 32 [b,AV.sc (.int .i64 g)] (Am m) 101) fun ad=>
Il (Cs pg (.call ⟨.builtin .copy,#[.tmp 0,.tmp 1],#[32,31]⟩) 3 [ad,f] (Am m) 103) m fun ae o=>
Af ae fun am=>
Bo (Cs pg (.slice 32 (.tmp 0) (some (.tmp 1)) none none) 32 [b,AV.sc (.int .i64 a)] (Am o) 106) fun af=>
Ez pg KK.gl o 108 80 [af,AV.sc (.int .i64 c)] fun ag ah=>
X5 ag<|
A2 R ah [some b]))
theorem Abx (c:AV) (a:Int) (b:AV) (m:Mem) (R:AV→Mem→Prop):aK pg KK.gl 32 3 47 6 48 79 [AV.sc (.int .i64 (0)),AV.sc (.int .i64 (0)),AV.sc (.int .i64 (0)),AV.sc (.int .i64 (0)),AV.sc (.int .i64 (0)),AV.sc (.int .i64 (0))] (J65 a b m R) c a b m R=bX c a b m R:=by kernel_rfl
theorem sT (a:AV) (b:Int) (c:AV) (m:Mem) (R:AV→Mem→Prop):Wp pg 32 47 6 48 [AV.sc (.int .i64 (0)),AV.sc (.int .i64 (0)),AV.sc (.int .i64 (0)),AV.sc (.int .i64 (0)),AV.sc (.int .i64 (0)),AV.sc (.int .i64 (0))] (Agf a b c m R) a b c m R=bV a b c m R:=by kernel_rfl
theorem Abr:eR pg 79 31 4:=⟨⟨Tryz.f79,Tryz.func79,by kernel_rfl,by kernel_rfl,by kernel_rfl,by kernel_rfl⟩,⟨47,_,by kernel_rfl,Ds (n:=(D5 pg 47).getD 0) Bi⟩⟩
theorem Abs {l xs:List Ab} {C k:Nat} (hC:l.length≤C) (hCm:C≤maxLen) (hne:l≠[]) (hx:xs≠[]) (hk:k≤l.length) (d:(l.length+xs.length)*48≤140737488355328) (g:l.length+xs.length≤4611686018427387904) (a:AV) (ha0:a=.sl 0 0 Ab.E.size l.length C true) (b:Int) (ha1:b=(k:Int)) (c:AV) (ha2:c=.sl 1 0 Ab.E.size xs.length xs.length false) (m:Mem) (hm:m=[(0,some ⟨Bl Ab.E l++List.replicate ((C-l.length)*Ab.E.size) .E9,47⟩),(1,some ⟨Bl Ab.E xs,47⟩)]):bX a b c m (U1 Ab.E 47 (l.take k++xs++l.drop k)):=by
 rw [← Abx]
 exact gR (P:=pg) (gl:=KK.gl) (E:=Ab.E) (t:=32) (e:=47) (sz:=6) (by_:=48) (fo:=79) (ty2:=47) (i:=k) (zs:=[AV.sc (.int .i64 (0)),AV.sc (.int .i64 (0)),AV.sc (.int .i64 (0)),AV.sc (.int .i64 (0)),AV.sc (.int .i64 (0)),AV.sc (.int .i64 (0))]) (l:=l) (xs:=xs) (C:=C) (f:=0) (nt:=0) (kk:=.i64) Bi Bi Bi Bi rfl rfl Bi Abr hC hCm hne hx hk d g (U1 Ab.E 47 (l.take k++xs++l.drop k)) (fun _ _ h=>h) m hm a ha0 b ha1 c ha2 _
theorem Acu {xs:List Ab} (hx:xs≠[]) (d:(0+xs.length)*48≤140737488355328) (e:0+xs.length≤4611686018427387904) (a:AV) (ha0:a=.Ek 0 [] true) (b:Int) (ha1:b=0) (c:AV) (ha2:c=.sl 0 0 Ab.E.size xs.length xs.length false) (m:Mem) (hm:m=[(0,some ⟨Bl Ab.E xs,47⟩)]):bV a b c m (U1 Ab.E 47 xs):=by
 rw [← sT]
 exact Sv Bi Bi rfl rfl hx d e _ (fun _ _ h=>h) m hm a ha0 b ha1 c ha2 _
theorem Aes {n id wid:Nat} {look:Nat→Option B5} {l0 l xs0 xs y:List Ab} {i:Int} (hl:l0.length=l.length) (hb:look id=C7 Ab.E 47 l) (hl2:xs0.length=xs.length) (hb2:look wid=some ⟨Bl Ab.E xs,47⟩) (hid:id≠wid) (h:iE 48 l i xs=some y):E3 pg KK.gl look n 65 [B7 Ab.E id l0,Aa i,Ik Ab.E wid xs0] (B7 Ab.E n y) [(n,C7 Ab.E 47 y),(wid,none),(id,none)]:=
 Abp (fun _=>rfl) hl hb hl2 hb2 hid h (fun C k hC hCm hne hx hk a b=>Z6 _ _ _ _ _ (Abs hC hCm hne hx hk a b _ rfl _ rfl _ rfl _ rfl)) (fun hx a b=>aX _ _ _ _ _ (Acu hx a b _ rfl _ rfl _ rfl _ rfl))
theorem Ae7 {S:Nat} (a:0<S) (hr:S*48≤281474976710656) (hr2:S≤4611686018427387904):F48 AV.B1 (S:Int) (mY 0 6 0 S false ⟨rep [AV.sc (.int .i64 (0)),AV.sc (.int .i64 (0)),AV.sc (.int .i64 (0)),AV.sc (.int .i64 (0)),AV.sc (.int .i64 (0)),AV.sc (.int .i64 (0))] S,47⟩):=by
 unfold F48
 have b:decide ((S:Int)<0)=false:=decide_eq_false (by omega)
 rw [b,cond_false]
 refine Cj (v:=Aa 0) Bi ?_
 refine Ai ?_
 refine Cj (v:=Aa 0) rfl ?_
 refine Ai ?_
 have c:IntKind.wrap .i64 ((0:Int)-0)=0:=by decide
 have f:IntKind.wrap .i64 ((S:Int)-IntKind.wrap .i64 ((0:Int)-0))=(S:Int):=by rw [c,wrap64 (by omega) (by omega)];omega
 rw [f]
 have g:decide ((S:Int)>0)=true:=decide_eq_true (by omega)
 rw [g,cond_true]
 refine Cj (v:=Aa 0) Bi ?_
 refine Ai ?_
 refine Cj (v:=.B1) Bi ?_
 refine Dv (v:=.sl 18 0 6 S S false) (d:=[(18,some ⟨rep [AV.sc (.int .i64 (0)),AV.sc (.int .i64 (0)),AV.sc (.int .i64 (0)),AV.sc (.int .i64 (0)),AV.sc (.int .i64 (0)),AV.sc (.int .i64 (0))] S,47⟩)]) ?_ ?_
 ·exact Zt.trans<|oE (e:=47) (sz:=6) (by_:=48) (zs:=[AV.sc (.int .i64 (0)),AV.sc (.int .i64 (0)),AV.sc (.int .i64 (0)),AV.sc (.int .i64 (0)),AV.sc (.int .i64 (0)),AV.sc (.int .i64 (0))]) (k:=.i64) Bi Bi Bi Bi Bi rfl rfl a hr hr2
 refine Cj (v:=Aa 0) rfl ?_
 refine Ai ?_
 refine Cj (v:=.sl 18 0 6 0 S false) ?_ ?_
 ·exact (Sm (e:=47) (sz:=6) (yt:=0) (y:=.E9) (z:=.E9) Bi Bi).2.1.trans (Acs a)
 exact ⟨18,rfl,rfl⟩
theorem Aa7:F48 AV.B1 0 (fun u m=>freeze (Am m) 6 u=some .B1):=by
 unfold F48
 have a:decide ((0:Int)<0)=false:=by decide
 rw [a,cond_false]
 refine Cj (v:=Aa 0) Bi ?_
 refine Ai ?_
 refine Cj (v:=Aa 0) rfl ?_
 refine Ai ?_
 have b:decide (IntKind.wrap .i64 ((0:Int)-IntKind.wrap .i64 ((0:Int)-0))>0)=false:=by decide
 rw [b,cond_false]
 exact (rfl:freeze (Am []) 6 AV.B1=some AV.B1)
theorem xZ {L:List (List Ab)} {y:List Ab} (h:R8 48 L=some y):F33 (As (Ct Ab.E) L) (Mx Ab.E 47 y):=by
 obtain ⟨rfl,hL,hr,hr2⟩:=gW h
 have hz:([AV.sc (.int .i64 (0)),AV.sc (.int .i64 (0)),AV.sc (.int .i64 (0)),AV.sc (.int .i64 (0)),AV.sc (.int .i64 (0)),AV.sc (.int .i64 (0))]:List AV).length=Ab.E.size:=rfl
 unfold F33
 refine Cj (v:=Aa L.length) rfl ?_
 refine Ai ?_
 have hcl:clean (As (Ct Ab.E) L)=true:=M6 _ _
 refine Ae5 _ (σ:=Nat) (fun k=>k≤L.length) (fun _=>As (Ct Ab.E) L) (fun _=>AV.B1) (fun k=>((L.take k).flatten.length:Int)) (fun _=>As (Ct Ab.E) L) (fun _=>(L.length:Int)) (fun k=>(k:Int)) (fun _=>[]) (fun k=>L.length-k) ?_ 0 (Nat.zero_le _)
  (Qm rfl (Dx rfl hcl (Dx rfl rfl (Dx rfl rfl (Dx rfl hcl (Dx rfl rfl (Dx rfl rfl trivial)))))))
 intro k hk
 show bF (As (Ct Ab.E) L) AV.B1 ((L.take k).flatten.length:Int) (As (Ct Ab.E) L) (L.length:Int) (k:Int) [] _ _
 have hfk:=Vk (L:=L) k
 unfold bF
 refine Oh (fun hc=> ?_) (fun hc=> ?_)
 ·have hlt:k<L.length:=by have:=of_decide_eq_true hc;omega
  have hfk1:=Vk (L:=L) (k+1)
  have hsn:=Um hlt
  have hln:(L.take (k+1)).flatten.length=(L.take k).flatten.length+(L[k]).length:=by rw [hsn,List.length_append]
  refine Cj (Nt (E:=Ct Ab.E) rfl L false k hlt) ?_
  refine Cj (Wm (x:=As Ab.E L[k]) rfl) ?_
  refine Cj (v:=Aa (L[k]).length) rfl ?_
  refine Ai ?_
  have f:IntKind.wrap .i64 (((L.take k).flatten.length:Int)+((L[k]).length:Int))=((L.take (k+1)).flatten.length:Int):=by rw [wrap64 (by omega) (by omega)];omega
  have a:IntKind.wrap .i64 ((k:Int)+1)=((k+1:Nat):Int):=by rw [wrap64 (by omega) (by omega)];omega
  rw [f,a]
  refine Oh (fun hc=>by have:=of_decide_eq_true hc;omega) (fun _=> ?_)
  exact ⟨k+1,hlt,by omega,Qm rfl (Dx rfl hcl (Dx rfl rfl (Dx rfl rfl (Dx rfl hcl (Dx rfl rfl (Dx rfl rfl trivial))))))⟩
 ·have hkk:k=L.length:=by have:=of_decide_eq_false hc;omega
  subst hkk
  rw [List.take_length]
  generalize hS:L.flatten.length=S at*
  have hlenS:Ed (As (Ct Ab.E) L)=some (Aa L.length,[]):=rfl
  by_cases c:S=0
  ·subst c
   have hFl:L.flatten=[]:=List.eq_nil_of_length_eq_zero hS
   have hel:∀(k:Nat) (h:k<L.length),L[k]=[]:=fun k h=>by
    have:=List.flatten_eq_nil_iff.1 hFl L[k] (List.getElem_mem h);exact this
   refine Nc (v:=.B1) (Vp rfl rfl (dZ _ _ _ Aa7)) ?_
   refine Cj hlenS ?_
   refine Ai ?_
   refine xQ _ (σ:=Nat) (fun k=>k≤L.length) (fun _=>AV.B1) (fun _=>AV.B1) (fun _=>As (Ct Ab.E) L) (fun _=>(L.length:Int)) (fun k=>(k:Int)) (fun _=>[]) (fun k=>L.length-k) ?_ 0 (Nat.zero_le _)
    (Qm rfl (Dx rfl rfl (Dx rfl rfl (Dx rfl hcl (Dx rfl rfl (Dx rfl rfl trivial))))))
   intro k hk
   show Tr AV.B1 AV.B1 (As (Ct Ab.E) L) (L.length:Int) (k:Int) [] _ _
   unfold Tr
   refine Oh (fun hc=> ?_) (fun hc=> ?_)
   ·have hlt:k<L.length:=by have:=of_decide_eq_true hc;omega
    refine Cj (Nt (E:=Ct Ab.E) rfl L false k hlt) ?_
    refine Cj (Wm (x:=As Ab.E L[k]) rfl) ?_
    rw [hel k hlt]
    refine Dv (fQ (E:=Ab.E)) ?_
    have a:IntKind.wrap .i64 ((k:Int)+1)=((k+1:Nat):Int):=by rw [wrap64 (by omega) (by omega)];omega
    rw [a]
    exact ⟨k+1,hlt,by omega,Qm rfl (Dx rfl rfl (Dx rfl rfl (Dx rfl hcl (Dx rfl rfl (Dx rfl rfl trivial)))))⟩
   ·rw [hFl];exact D4
  ·refine G5 (Xq (n:=100002) (b:=⟨rep [AV.sc (.int .i64 (0)),AV.sc (.int .i64 (0)),AV.sc (.int .i64 (0)),AV.sc (.int .i64 (0)),AV.sc (.int .i64 (0)),AV.sc (.int .i64 (0))] S,47⟩) rfl (Pa rfl S) (dZ _ _ _ (Ae7 (by omega) hr hr2))) ?_
   refine Cj hlenS ?_
   refine Ai ?_
   have hbc:∀k,Av (Bl Ab.E (L.take k).flatten++rep [AV.sc (.int .i64 (0)),AV.sc (.int .i64 (0)),AV.sc (.int .i64 (0)),AV.sc (.int .i64 (0)),AV.sc (.int .i64 (0)),AV.sc (.int .i64 (0))] (S-(L.take k).flatten.length))=true:=fun k=>by rw [Ib,Al,Pa rfl];rfl
   refine xQ _ (σ:=Nat) (fun k=>k≤L.length) (fun _=>AV.B1) (fun k=> .sl 90000 0 Ab.E.size (L.take k).flatten.length S false) (fun _=>As (Ct Ab.E) L) (fun _=>(L.length:Int)) (fun k=>(k:Int)) (fun k=>[(90000,some ⟨Bl Ab.E (L.take k).flatten++rep [AV.sc (.int .i64 (0)),AV.sc (.int .i64 (0)),AV.sc (.int .i64 (0)),AV.sc (.int .i64 (0)),AV.sc (.int .i64 (0)),AV.sc (.int .i64 (0))] (S-(L.take k).flatten.length),47⟩)]) (fun k=>L.length-k) ?_ 0 (Nat.zero_le _)
    (Bc [(90000,100002)] rfl rfl rfl (oR (oR (A9 (Bz _ _) (oR (oR Bn))))) (Ao (Aw (hbc 0) rfl) Bb))
   intro k hk
   show Tr AV.B1 (.sl 90000 0 Ab.E.size (L.take k).flatten.length S false) (As (Ct Ab.E) L) (L.length:Int) (k:Int) [(90000,some ⟨Bl Ab.E (L.take k).flatten++rep [AV.sc (.int .i64 (0)),AV.sc (.int .i64 (0)),AV.sc (.int .i64 (0)),AV.sc (.int .i64 (0)),AV.sc (.int .i64 (0)),AV.sc (.int .i64 (0))] (S-(L.take k).flatten.length),47⟩)] _ _
   unfold Tr
   refine Oh (fun hc=> ?_) (fun hc=> ?_)
   ·have hlt:k<L.length:=by have:=of_decide_eq_true hc;omega
    have hfk1:=Vk (L:=L) (k+1)
    have hsn:=Um hlt
    have hln:(L.take (k+1)).flatten.length=(L.take k).flatten.length+(L[k]).length:=by rw [hsn,List.length_append]
    refine Cj (Nt (E:=Ct Ab.E) rfl L false k hlt) ?_
    refine Cj (Wm (x:=As Ab.E L[k]) rfl) ?_
    have a:IntKind.wrap .i64 ((k:Int)+1)=((k+1:Nat):Int):=by rw [wrap64 (by omega) (by omega)];omega
    rw [a]
    obtain ⟨d,hd1,hd2⟩:=qA (E:=Ab.E) (look:=Am [(90000,some ⟨Bl Ab.E (L.take k).flatten++rep [AV.sc (.int .i64 (0)),AV.sc (.int .i64 (0)),AV.sc (.int .i64 (0)),AV.sc (.int .i64 (0)),AV.sc (.int .i64 (0)),AV.sc (.int .i64 (0))] (S-(L.take k).flatten.length),47⟩)]) (e:=47) (by_:=48) (n:=200006) (id:=90000) (ty:=47) (S:=S) (xs:=L[k]) hz rfl (by omega) hr hr2
    refine Dv hd1 ?_
    have hb:Am (Ag [(90000,some ⟨Bl Ab.E (L.take k).flatten++rep [AV.sc (.int .i64 (0)),AV.sc (.int .i64 (0)),AV.sc (.int .i64 (0)),AV.sc (.int .i64 (0)),AV.sc (.int .i64 (0)),AV.sc (.int .i64 (0))] (S-(L.take k).flatten.length),47⟩)] d) 90000=some ⟨Bl Ab.E (L.take (k+1)).flatten++rep [AV.sc (.int .i64 (0)),AV.sc (.int .i64 (0)),AV.sc (.int .i64 (0)),AV.sc (.int .i64 (0)),AV.sc (.int .i64 (0)),AV.sc (.int .i64 (0))] (S-(L.take (k+1)).flatten.length),47⟩:=by
     rcases hd2 with rfl|⟨rfl,he⟩
     ·rw [hsn,List.length_append];rfl
     ·rw [hsn,he,List.append_nil];rfl
    exact ⟨k+1,hlt,by omega,Bc [(90000,90000)] rfl rfl rfl (oR (A9 (.inl (by rw [hln];exact L5 _)) (A9 (Bz _ _) (oR (oR Bn))))) (Ao (Aw (hbc (k+1)) hb) Bb)⟩
   ·have hkk:k=L.length:=by have:=of_decide_eq_false hc;omega
    subst hkk
    rw [List.take_length,hS,Nat.sub_self]
    refine .inr ⟨by rintro e;rw [e] at hS;exact c hS.symm,90000,S,false,by rw [hS],?_⟩
    simp [Am,rep]
theorem Abb {n:Nat} {look:Nat→Option B5} {args:List AV} {L:List (List Ab)} {y:List Ab} (h:R8 48 L=some y) (hs:bD look 6 args [As (Ct Ab.E) L]):E3 pg KK.gl look n 33 args (B7 Ab.E n y) [(n,C7 Ab.E 47 y)]:=eY (fun _=>rfl) hs (o7 _ _ (xZ h))
theorem Abd (n:Nat) (a:Ea) {t:vA} (R:AV→Mem→Prop) (hR:∀r:vA,t=r→∀u m,C2 ((Aa r)) u m→R u m):fX n a=some t→F35 a.Bu a.Bj R:=by
 unfold fX F35
 refine Aq (fun _=> ?_) (fun _=> ?_)
 ·exact C9 hR rfl rfl
 ·refine Aq (fun _=> ?_) (fun _=> ?_)
  ·exact C9 hR rfl rfl
  ·refine Aq (fun _=> ?_) (fun _=> ?_)
   ·exact C9 hR rfl rfl
   ·refine Aq (fun _=> ?_) (fun _=> ?_)
    ·exact C9 hR rfl rfl
    ·exact C9 hR rfl rfl
theorem Ae4 {n:Nat} {a:Ea} {t:vA} (h:fX n a=some t):Dc pg KK.gl 35 [AV.agg [Aa a.Bu,Aa a.Bj]] ((Aa t)):=
 A1 (by first|rfl|simp [Av,clean,Al,En.Di]) (by first|rfl|simp [Av,clean,Al,En.Di]) (oW a.Bu a.Bj _ (Abd n a (C2 ((Aa t))) (fun r e u m h=>by rw [e];exact h) h))
theorem Ab7 (n:Nat) (a:TP) {t:sA} (R:AV→Mem→Prop) (hR:∀r:sA,t=r→∀u m,C2 ((Aa r)) u m→R u m):Qy n a=some t→F30 a.X a.Y R:=by
 unfold Qy F30
 refine Aq (fun _=> ?_) (fun _=> ?_)
 ·exact C9 hR rfl rfl
 ·refine Aq (fun _=> ?_) (fun _=> ?_)
  ·exact C9 hR rfl rfl
  ·refine Aq (fun _=> ?_) (fun _=> ?_)
   ·exact C9 hR rfl rfl
   ·refine Aq (fun _=> ?_) (fun _=> ?_)
    ·exact C9 hR rfl rfl
    ·exact C9 hR rfl rfl
theorem Ya {n:Nat} {a:TP} {t:sA} (h:Qy n a=some t):Dc pg KK.gl 30 [AV.agg [Aa a.X,Aa a.Y]] ((Aa t)):=
 A1 (by first|rfl|simp [Av,clean,Al,En.Di]) (by first|rfl|simp [Av,clean,Al,En.Di]) (uN a.X a.Y _ (Ab7 n a (C2 ((Aa t))) (fun r e u m h=>by rw [e];exact h) h))
theorem jS (n:Nat) (c:List Ab) (d e f:Int) {t:(Int)⊕Vt} (R:AV→Mem→Prop) (N0:St→Prop) (hR:∀r:Vt,t=(.inr r)→∀u m,C2 ((Aa r)) u m→R u m) (hN0:∀y:Int,t=(.inl y)→∀s':St,Cl KK 86 0 s' (T6 (As Ab.E c) d (As Ab.E c) e y [])→N0 s'):I7 n c d e f=some t→eO (As Ab.E c) d (As Ab.E c) e f [] R N0:=by
 unfold I7 eO
 refine Aq (fun _=> ?_) (fun _=> ?_)
 ·refine At fun b g=> ?_
  refine iq (AV.Dn [Aa b.Ac,Aa b.Ak,Aa b.Aj,Aa b.Ad,Aa b.Ay,Aa b.Br] 0) (C5 (E:=Ab.E) rfl g) ?_
  refine iq (AV.agg [Aa b.Ac,Aa b.Ak,Aa b.Aj,Aa b.Ad,Aa b.Ay,Aa b.Br]) rfl ?_
  refine imp Fp ?_
  iterate 6 refine imp Ai ?_
  refine Aq (fun _=> ?_) (fun _=> ?_)
  ·exact C9 hR rfl rfl
  ·refine Aq (fun _=> ?_) (fun _=> ?_)
   ·exact C9 hR rfl rfl
   ·refine Aq (fun _=> ?_) (fun _=> ?_)
    ·refine At fun a h=> ?_
     refine iq (AV.Dn [Aa a.Ac,Aa a.Ak,Aa a.Aj,Aa a.Ad,Aa a.Ay,Aa a.Br] 0) (C5 (E:=Ab.E) rfl h) ?_
     refine iq (AV.Dn [Aa a.Ac,Aa a.Ak,Aa a.Aj,Aa a.Ad,Aa a.Ay,Aa a.Br] 0) rfl ?_
     refine iq (AV.Dn [Aa a.Ac,Aa a.Ak,Aa a.Aj,Aa a.Ad,Aa a.Ay,Aa a.Br] 0) rfl ?_
     refine iq (Aa a.Ac) rfl ?_
     refine imp Ai ?_
     refine Aq (fun _=> ?_) (fun _=> ?_)
     ·exact C9 hR rfl rfl
     ·refine At fun k i=> ?_
      refine imp (An (Ya i)) ?_
      refine imp Ai ?_
      refine Aq (fun _=> ?_) (fun _=> ?_)
      ·exact C9 hR rfl rfl
      ·refine Aq (fun _=> ?_) (fun _=> ?_)
       ·exact C9 hR rfl rfl
       ·refine Aq (fun _=> ?_) (fun _=> ?_)
        ·exact C9 hR rfl rfl
        ·refine Aq (fun _=> ?_) (fun _=> ?_)
         ·exact C9 hR rfl rfl
         ·refine Aq (fun _=> ?_) (fun _=> ?_)
          ·exact C9 hR rfl rfl
          ·refine Aq (fun _=> ?_) (fun _=> ?_)
           ·exact C9 hR rfl rfl
           ·refine Aq (fun _=> ?_) (fun _=> ?_)
            ·exact C9 hR rfl rfl
            ·exact fun hg=>hN0 _ (Option.some.inj hg).symm _ (Bc [] rfl rfl rfl (A9 (Bz (E:=Ab.E) _ false) (oR (A9 (Bz (E:=Ab.E) _ false) (oR (oR Bn))))) Bb)
    ·refine At fun l j=> ?_
     refine imp (An (Ya j)) ?_
     refine imp Ai ?_
     refine Aq (fun _=> ?_) (fun _=> ?_)
     ·exact C9 hR rfl rfl
     ·refine Aq (fun _=> ?_) (fun _=> ?_)
      ·exact C9 hR rfl rfl
      ·refine Aq (fun _=> ?_) (fun _=> ?_)
       ·exact C9 hR rfl rfl
       ·refine Aq (fun _=> ?_) (fun _=> ?_)
        ·exact C9 hR rfl rfl
        ·refine Aq (fun _=> ?_) (fun _=> ?_)
         ·exact C9 hR rfl rfl
         ·refine Aq (fun _=> ?_) (fun _=> ?_)
          ·exact C9 hR rfl rfl
          ·refine Aq (fun _=> ?_) (fun _=> ?_)
           ·exact C9 hR rfl rfl
           ·exact fun hg=>hN0 _ (Option.some.inj hg).symm _ (Bc [] rfl rfl rfl (A9 (Bz (E:=Ab.E) _ false) (oR (A9 (Bz (E:=Ab.E) _ false) (oR (oR Bn))))) Bb)
 ·exact C9 hR rfl rfl
theorem m8 (n:Nat) (a:List Ab) (b c:Int) {t:Vt} (R:AV→Mem→Prop) (hR:∀r:Vt,t=r→∀u m,C2 ((Aa r)) u m→R u m) (k:Nat) (x:Int) (hx:Bt (fun y:Int=>I7 n a b c y) k x=some t) {s:St} (hw:Cl KK 86 0 s (T6 (As Ab.E a) b (As Ab.E a) c x [])):C6 pg KK 86 0 (.loop cF) s (cK R):=
 Ad5 R (σ:=Nat×(Int)) (fun z=>Bt (fun y:Int=>I7 n a b c y) z.1 z.2=some t) (fun z=>(As Ab.E a)) (fun z=>b) (fun z=>(As Ab.E a)) (fun z=>c) (fun z=>z.2) (fun z=>[]) (fun z=>z.1) (by
  rintro ⟨k,y⟩ h
  cases k with
  |zero=>exact (Cz h).elim
  |succ k=>
   obtain ⟨u,d,f,g⟩:=Cv h
   exact jS n a b c y R _ (fun r e=>hR r (g _ e).symm) (fun y' e s' hw=>⟨(k,y'),f _ e,Nat.lt_succ_self k,hw⟩) d) (k,x) hx hw
theorem yM (n:Nat) (a:List Ab) {t:Vt} (R:AV→Mem→Prop) (hR:∀r:Vt,t=r→∀u m,C2 ((Aa r)) u m→R u m):K7 n a=some t→F17 (As Ab.E a) R:=by
 unfold K7 F17
 refine iq (Aa (a.length:Int)) rfl ?_
 refine imp Ai ?_
 refine Aq (fun _=> ?_) (fun _=> ?_)
 ·exact C9 hR rfl rfl
 ·refine iq (Aa (a.length:Int)) rfl ?_
  refine imp Ai ?_
  refine Aq (fun _=> ?_) (fun _=> ?_)
  ·exact C9 hR rfl rfl
  ·refine iq (Aa (a.length:Int)) rfl ?_
   refine imp Ai ?_
   exact fun hg=>m8 n a (0) (a.length:Int) R hR n _ hg (Bc [] rfl rfl rfl (A9 (Bz (E:=Ab.E) _ false) (oR (A9 (Bz (E:=Ab.E) _ false) (oR (oR Bn))))) Bb)
theorem hG {n:Nat} {a:List Ab} {t:Vt} (h:K7 n a=some t):Dc pg KK.gl 17 [As Ab.E a] ((Aa t)):=
 A1 (by first|rfl|simp [Av,clean,Al,En.Di]) (by first|rfl|simp [Av,clean,Al,En.Di]) (qP (As Ab.E a) _ (yM n a (C2 ((Aa t))) (fun r e u m h=>by rw [e];exact h) h))
theorem n7 (n:Nat) (a:Int) (b:List (List Ab)) (c d:Int) {t:(Int)⊕V2} (R:AV→Mem→Prop) (N0:St→Prop) (hR:∀r:V2,t=(.inr r)→∀u m,C2 ((Aa r)) u m→R u m) (hN0:∀y:Int,t=(.inl y)→∀s':St,Cl KK 26 0 s' (Tn a (As (Ct Ab.E) b) c y [])→N0 s'):S9 n a b c d=some t→dK a (As (Ct Ab.E) b) c d [] R N0:=by
 unfold S9 dK
 refine Aq (fun _=> ?_) (fun _=> ?_)
 ·refine At fun e f=> ?_
  refine iq (AV.Dn [As Ab.E e] 0) (C5 (E:=(Ct Ab.E)) rfl f) ?_
  refine iq (As Ab.E e) rfl ?_
  refine At fun h g=> ?_
  refine imp (An (hG g)) ?_
  refine imp Ai ?_
  refine Aq (fun _=> ?_) (fun _=> ?_)
  ·exact C9 hR rfl rfl
  ·exact fun hg=>hN0 _ (Option.some.inj hg).symm _ (Bc [] rfl rfl rfl (oR (A9 (Bz (E:=(Ct Ab.E)) _ false) (oR (oR Bn)))) Bb)
 ·exact C9 hR rfl rfl
theorem l9 (n:Nat) (a:Int) (b:List (List Ab)) (c:Int) {t:V2} (R:AV→Mem→Prop) (hR:∀r:V2,t=r→∀u m,C2 ((Aa r)) u m→R u m) (k:Nat) (x:Int) (hx:Bt (fun y:Int=>S9 n a b c y) k x=some t) {s:St} (hw:Cl KK 26 0 s (Tn a (As (Ct Ab.E) b) c x [])):C6 pg KK 26 0 (.loop cJ) s (dW R):=
 Ac5 R (σ:=Nat×(Int)) (fun z=>Bt (fun y:Int=>S9 n a b c y) z.1 z.2=some t) (fun z=>a) (fun z=>(As (Ct Ab.E) b)) (fun z=>c) (fun z=>z.2) (fun z=>[]) (fun z=>z.1) (by
  rintro ⟨k,y⟩ h
  cases k with
  |zero=>exact (Cz h).elim
  |succ k=>
   obtain ⟨u,d,f,g⟩:=Cv h
   exact n7 n a b c y R _ (fun r e=>hR r (g _ e).symm) (fun y' e s' hw=>⟨(k,y'),f _ e,Nat.lt_succ_self k,hw⟩) d) (k,x) hx hw
theorem yK (n:Nat) (b:Ea) (a:List (List Ab)) {t:V2} (R:AV→Mem→Prop) (hR:∀r:V2,t=r→∀u m,C2 ((Aa r)) u m→R u m):g69 n b a=some t→F69 b.Bu b.Bj (As (Ct Ab.E) a) R:=by
 unfold g69 F69
 refine At fun d c=> ?_
 refine imp (An (Ae4 c)) ?_
 refine imp Ai ?_
 refine Aq (fun _=> ?_) (fun _=> ?_)
 ·exact C9 hR rfl rfl
 ·refine iq (Aa (a.length:Int)) rfl ?_
  refine imp Ai ?_
  exact fun hg=>l9 n (0) a (a.length:Int) R hR n _ hg (Bc [] rfl rfl rfl (oR (A9 (Bz (E:=(Ct Ab.E)) _ false) (oR (oR Bn)))) Bb)
theorem Af6 {n:Nat} {a:Ea} {b:List (List Ab)} {t:V2} (h:g69 n a b=some t):Dc pg KK.gl 69 [AV.agg [Aa a.Bu,Aa a.Bj],As (Ct Ab.E) b] ((Aa t)):=
 A1 (by first|rfl|simp [Av,clean,Al,En.Di]) (by first|rfl|simp [Av,clean,Al,En.Di]) (wH a.Bu a.Bj (As (Ct Ab.E) b) _ (yK n a b (C2 ((Aa t))) (fun r e u m h=>by rw [e];exact h) h))
theorem Abc (n:Nat) (e f:List Ab) {t:pQ} (R:AV→Mem→Prop) (hR:∀r:pQ,t=r→∀u m,C2 ((AV.B4 [Aa r.1,Aa r.2])) u m→R u m):g82 n e f=some t→F82 (As Ab.E e) (As Ab.E f) R:=by
 unfold g82 F82
 refine At fun a g=> ?_
 refine iq (AV.Dn [Aa a.Ac,Aa a.Ak,Aa a.Aj,Aa a.Ad,Aa a.Ay,Aa a.Br] 0) (C5 (E:=Ab.E) rfl g) ?_
 refine iq (AV.Dn [Aa a.Ac,Aa a.Ak,Aa a.Aj,Aa a.Ad,Aa a.Ay,Aa a.Br] 0) rfl ?_
 refine iq (AV.Dn [Aa a.Ac,Aa a.Ak,Aa a.Aj,Aa a.Ad,Aa a.Ay,Aa a.Br] 0) rfl ?_
 refine iq (Aa a.Ac) rfl ?_
 refine imp Ai ?_
 refine At fun b h=> ?_
 refine iq (AV.Dn [Aa b.Ac,Aa b.Ak,Aa b.Aj,Aa b.Ad,Aa b.Ay,Aa b.Br] 0) (C5 (E:=Ab.E) rfl h) ?_
 refine iq (AV.Dn [Aa b.Ac,Aa b.Ak,Aa b.Aj,Aa b.Ad,Aa b.Ay,Aa b.Br] 0) rfl ?_
 refine iq (AV.Dn [Aa b.Ac,Aa b.Ak,Aa b.Aj,Aa b.Ad,Aa b.Ay,Aa b.Br] 0) rfl ?_
 refine iq (Aa b.Ac) rfl ?_
 refine imp Ai ?_
 refine iq (Aa (if b.Ac>a.Ac then b.Ac else a.Ac)) Bi ?_
 refine imp Ai ?_
 refine iq (Aa (e.length:Int)) rfl ?_
 refine imp Ai ?_
 refine At fun c i=> ?_
 refine iq (AV.Dn [Aa c.Ac,Aa c.Ak,Aa c.Aj,Aa c.Ad,Aa c.Ay,Aa c.Br] 0) (C5 (E:=Ab.E) rfl i) ?_
 refine iq (AV.Dn [Aa c.Ac,Aa c.Ak,Aa c.Aj,Aa c.Ad,Aa c.Ay,Aa c.Br] 0) rfl ?_
 refine iq (AV.Dn [Aa c.Ac,Aa c.Ak,Aa c.Aj,Aa c.Ad,Aa c.Ay,Aa c.Br] 0) rfl ?_
 refine iq (Aa c.Ac) rfl ?_
 refine imp Ai ?_
 refine iq (Aa (f.length:Int)) rfl ?_
 refine imp Ai ?_
 refine At fun d j=> ?_
 refine iq (AV.Dn [Aa d.Ac,Aa d.Ak,Aa d.Aj,Aa d.Ad,Aa d.Ay,Aa d.Br] 0) (C5 (E:=Ab.E) rfl j) ?_
 refine iq (AV.Dn [Aa d.Ac,Aa d.Ak,Aa d.Aj,Aa d.Ad,Aa d.Ay,Aa d.Br] 0) rfl ?_
 refine iq (AV.Dn [Aa d.Ac,Aa d.Ak,Aa d.Aj,Aa d.Ad,Aa d.Ay,Aa d.Br] 0) rfl ?_
 refine iq (Aa d.Ac) rfl ?_
 refine imp Ai ?_
 refine iq (Aa (if d.Ac<c.Ac then d.Ac else c.Ac)) Bi ?_
 refine imp Ai ?_
 exact fun hg=>Dp rfl (hR _ (Option.some.inj hg).symm) (fS (fS Bx))
theorem Ag4 {n:Nat} {a:List Ab} {b:List Ab} {t:pQ} (h:g82 n a b=some t):Dc pg KK.gl 82 [As Ab.E a,As Ab.E b] ((AV.B4 [Aa t.1,Aa t.2])):=
 A1 (by first|rfl|simp [Av,clean,Al,En.Di]) (by first|rfl|simp [Av,clean,Al,En.Di]) (tD (As Ab.E a) (As Ab.E b) _ (Abc n a b (C2 ((AV.B4 [Aa t.1,Aa t.2]))) (fun r e u m h=>by rw [e];exact h) h))
theorem yU (n:Nat) (c:List Ab) {t:wZ} (R:AV→Mem→Prop) (hR:∀r:wZ,t=r→∀u m,C2 ((AV.B4 [Aa r.1,Aa r.2])) u m→R u m):g38 n c=some t→F38 (As Ab.E c) R:=by
 unfold g38 F38
 refine At fun a d=> ?_
 refine iq (AV.Dn [Aa a.Ac,Aa a.Ak,Aa a.Aj,Aa a.Ad,Aa a.Ay,Aa a.Br] 0) (C5 (E:=Ab.E) rfl d) ?_
 refine iq (AV.Dn [Aa a.Ac,Aa a.Ak,Aa a.Aj,Aa a.Ad,Aa a.Ay,Aa a.Br] 0) rfl ?_
 refine iq (AV.Dn [Aa a.Ac,Aa a.Ak,Aa a.Aj,Aa a.Ad,Aa a.Ay,Aa a.Br] 0) rfl ?_
 refine iq (Aa a.Ac) rfl ?_
 refine imp Ai ?_
 refine iq (Aa (c.length:Int)) rfl ?_
 refine imp Ai ?_
 refine At fun b e=> ?_
 refine iq (AV.Dn [Aa b.Ac,Aa b.Ak,Aa b.Aj,Aa b.Ad,Aa b.Ay,Aa b.Br] 0) (C5 (E:=Ab.E) rfl e) ?_
 refine iq (AV.Dn [Aa b.Ac,Aa b.Ak,Aa b.Aj,Aa b.Ad,Aa b.Ay,Aa b.Br] 0) rfl ?_
 refine iq (AV.Dn [Aa b.Ac,Aa b.Ak,Aa b.Aj,Aa b.Ad,Aa b.Ay,Aa b.Br] 0) rfl ?_
 refine iq (Aa b.Ac) rfl ?_
 refine imp Ai ?_
 exact fun hg=>Dp rfl (hR _ (Option.some.inj hg).symm) (fS (fS Bx))
theorem Agc {n:Nat} {a:List Ab} {t:wZ} (h:g38 n a=some t):Dc pg KK.gl 38 [As Ab.E a] ((AV.B4 [Aa t.1,Aa t.2])):=
 A1 (by first|rfl|simp [Av,clean,Al,En.Di]) (by first|rfl|simp [Av,clean,Al,En.Di]) (s6 (As Ab.E a) _ (yU n a (C2 ((AV.B4 [Aa t.1,Aa t.2]))) (fun r e u m h=>by rw [e];exact h) h))
theorem yE (n:Nat) (a:Ab) (b:Int) {t:vC} (R:AV→Mem→Prop) (hR:∀r:vC,t=r→∀u m,C2 ((Aa r)) u m→R u m):g51 n a b=some t→F51 a.Ac a.Ak a.Aj a.Ad a.Ay a.Br b R:=by
 unfold g51 F51
 exact C9 hR rfl rfl
theorem Aeb {n:Nat} {a:Ab} {b:Int} {t:vC} (h:g51 n a b=some t):Dc pg KK.gl 51 [AV.agg [Aa a.Ac,Aa a.Ak,Aa a.Aj,Aa a.Ad,Aa a.Ay,Aa a.Br],Aa b] ((Aa t)):=
 A1 (by first|rfl|simp [Av,clean,Al,En.Di]) (by first|rfl|simp [Av,clean,Al,En.Di]) (tF a.Ac a.Ak a.Aj a.Ad a.Ay a.Br b _ (yE n a b (C2 ((Aa t))) (fun r e u m h=>by rw [e];exact h) h))
theorem lS (n:Nat) (e:List Ab) (f c6:Int) (c7:Bool) (c8 c d:Int) {t:(Int×Int)⊕Vb} (R:AV→Mem→Prop) (N0:St→Prop) (hR:∀r:Vb,t=(.inr r)→∀u m,C2 ((AV.B4 [Aa r.1,Ah r.2])) u m→R u m) (hN0:∀y:Int×Int,t=(.inl y)→∀s':St,Cl KK 49 0 s' (S5 (As Ab.E e) f (AV.fn 51 []) c6 c7 c8 y.1 y.2 [])→N0 s'):Rs n e f c6 c7 c8 c d=some t→eU (As Ab.E e) f (AV.fn 51 []) c6 c7 c8 c d [] R N0:=by
 unfold Rs eU
 refine Aq (fun _=> ?_) (fun _=> ?_)
 ·refine iq (AV.sc (.int .u64 (IntKind.wrap .u64 (IntKind.wrap .i64 (c+d))))) Bi ?_
  refine imp Dj ?_
  refine imp (Cj (show _=some ((AV.sc (.int .u64 (Int.fdiv (IntKind.wrap .u64 (IntKind.wrap .i64 (c+d))) 2))),[]) from mB)) ?_
  refine imp Dj ?_
  refine iq (Aa (IntKind.wrap .i64 (Int.fdiv (IntKind.wrap .u64 (IntKind.wrap .i64 (c+d))) 2))) Bi ?_
  refine imp Ai ?_
  refine At fun a g=> ?_
  refine iq (AV.Dn [Aa a.Ac,Aa a.Ak,Aa a.Aj,Aa a.Ad,Aa a.Ay,Aa a.Br] 0) (C5 (E:=Ab.E) rfl g) ?_
  refine iq (AV.agg [Aa a.Ac,Aa a.Ak,Aa a.Aj,Aa a.Ad,Aa a.Ay,Aa a.Br]) rfl ?_
  refine imp Fp ?_
  iterate 6 refine imp Ai ?_
  refine At fun k h=> ?_
  refine imp I9 ?_
  refine imp (dB rfl) ?_
  refine imp (An (Aeb h)) ?_
  refine imp Ai ?_
  refine Aq (fun _=> ?_) (fun _=> ?_)
  ·exact fun hg=>hN0 _ (Option.some.inj hg).symm _ (Bc [] rfl rfl rfl (A9 (Bz (E:=Ab.E) _ false) (oR (oR (oR (oR (oR (oR (oR Bn)))))))) Bb)
  ·exact fun hg=>hN0 _ (Option.some.inj hg).symm _ (Bc [] rfl rfl rfl (A9 (Bz (E:=Ab.E) _ false) (oR (oR (oR (oR (oR (oR (oR Bn)))))))) Bb)
 ·refine Aq (fun _=> ?_) (fun _=> ?_)
  ·refine At fun b i=> ?_
   refine iq (AV.Dn [Aa b.Ac,Aa b.Ak,Aa b.Aj,Aa b.Ad,Aa b.Ay,Aa b.Br] 0) (C5 (E:=Ab.E) rfl i) ?_
   refine iq (AV.agg [Aa b.Ac,Aa b.Ak,Aa b.Aj,Aa b.Ad,Aa b.Ay,Aa b.Br]) rfl ?_
   refine imp Fp ?_
   iterate 6 refine imp Ai ?_
   refine At fun l j=> ?_
   refine imp I9 ?_
   refine imp (dB rfl) ?_
   refine imp (An (Aeb j)) ?_
   refine imp Ai ?_
   exact fun hg=>Dp rfl (hR _ (Option.some.inj hg).symm) (fS (fS Bx))
  ·exact fun hg=>Dp rfl (hR _ (Option.some.inj hg).symm) (fS (fS Bx))
theorem oB (n:Nat) (a:List Ab) (b c6:Int) (c7:Bool) (c8:Int) {t:Vb} (R:AV→Mem→Prop) (hR:∀r:Vb,t=r→∀u m,C2 ((AV.B4 [Aa r.1,Ah r.2])) u m→R u m) (k:Nat) (x:Int×Int) (hx:Bt (fun y:Int×Int=>Rs n a b c6 c7 c8 y.1 y.2) k x=some t) {s:St} (hw:Cl KK 49 0 s (S5 (As Ab.E a) b (AV.fn 51 []) c6 c7 c8 x.1 x.2 [])):C6 pg KK 49 0 (.loop bQ) s (bB R):=
 Ae8 R (σ:=Nat×(Int×Int)) (fun z=>Bt (fun y:Int×Int=>Rs n a b c6 c7 c8 y.1 y.2) z.1 z.2=some t) (fun z=>(As Ab.E a)) (fun z=>b) (fun z=>(AV.fn 51 [])) (fun z=>c6) (fun z=>c7) (fun z=>c8) (fun z=>z.2.1) (fun z=>z.2.2) (fun z=>[]) (fun z=>z.1) (by
  rintro ⟨k,y⟩ h
  cases k with
  |zero=>exact (Cz h).elim
  |succ k=>
   obtain ⟨u,c,d,f⟩:=Cv h
   exact lS n a b c6 c7 c8 y.1 y.2 R _ (fun r e=>hR r (f _ e).symm) (fun y' e s' hw=>⟨(k,y'),d _ e,Nat.lt_succ_self k,hw⟩) c) (k,x) hx hw
theorem Aas (n:Nat) (a:List Ab) (b:Int) {t:Vb} (R:AV→Mem→Prop) (hR:∀r:Vb,t=r→∀u m,C2 ((AV.B4 [Aa r.1,Ah r.2])) u m→R u m):g50 n a b=some t→F50 (As Ab.E a) b (AV.fn 51 []) R:=by
 unfold g50 F50
 refine iq (Aa (a.length:Int)) rfl ?_
 refine imp Ai ?_
 exact fun hg=>oB n a b (0) false (a.length:Int) R hR n _ hg (Bc [] rfl rfl rfl (A9 (Bz (E:=Ab.E) _ false) (oR (oR (oR (oR (oR (oR (oR Bn)))))))) Bb)
theorem Agi {n:Nat} {a:List Ab} {b:Int} {t:Vb} (h:g50 n a b=some t):Dc pg KK.gl 50 [As Ab.E a,Aa b,AV.fn 51 []] ((AV.B4 [Aa t.1,Ah t.2])):=
 A1 (by first|rfl|simp [Av,clean,Al,En.Di]) (by first|rfl|simp [Av,clean,Al,En.Di]) (r9 (As Ab.E a) b (AV.fn 51 []) _ (Aas n a b (C2 ((AV.B4 [Aa t.1,Ah t.2]))) (fun r e u m h=>by rw [e];exact h) h))
theorem Ab4 (n:Nat) (a b:Int) {t:sX} (R:AV→Mem→Prop) (hR:∀r:sX,t=r→∀u m,C2 ((AV.B4 [Aa r.1,Aa r.2])) u m→R u m):Zh n a b=some t→F53 a b R:=by
 unfold Zh F53
 refine Aq (fun _=> ?_) (fun _=> ?_)
 ·exact fun hg=>Dp rfl (hR _ (Option.some.inj hg).symm) (fS (fS Bx))
 ·refine Aq (fun _=> ?_) (fun _=> ?_)
  ·refine Aq (fun _=> ?_) (fun _=> ?_)
   ·exact fun hg=>Dp rfl (hR _ (Option.some.inj hg).symm) (fS (fS Bx))
   ·refine At fun c d=> ?_
    refine iq (Aa (IntKind.wrap .i64 c)) (Nk d) ?_
    refine imp Ai ?_
    refine At fun e f=> ?_
    refine iq (Aa e) (Ws f) ?_
    refine imp Ai ?_
    refine Aq (fun _=> ?_) (fun _=> ?_)
    ·refine iq (Ah (!((decide (a<(0)))==(decide (b<(0)))))) Bi ?_
     refine imp Eh ?_
     refine Aq (fun _=> ?_) (fun _=> ?_)
     ·exact fun hg=>Dp rfl (hR _ (Option.some.inj hg).symm) (fS (fS Bx))
     ·exact fun hg=>Dp rfl (hR _ (Option.some.inj hg).symm) (fS (fS Bx))
    ·exact fun hg=>Dp rfl (hR _ (Option.some.inj hg).symm) (fS (fS Bx))
  ·refine At fun g h=> ?_
   refine iq (Aa (IntKind.wrap .i64 g)) (Nk h) ?_
   refine imp Ai ?_
   refine At fun i j=> ?_
   refine iq (Aa i) (Ws j) ?_
   refine imp Ai ?_
   refine Aq (fun _=> ?_) (fun _=> ?_)
   ·refine iq (Ah (!((decide (a<(0)))==(decide (b<(0)))))) Bi ?_
    refine imp Eh ?_
    refine Aq (fun _=> ?_) (fun _=> ?_)
    ·exact fun hg=>Dp rfl (hR _ (Option.some.inj hg).symm) (fS (fS Bx))
    ·exact fun hg=>Dp rfl (hR _ (Option.some.inj hg).symm) (fS (fS Bx))
   ·exact fun hg=>Dp rfl (hR _ (Option.some.inj hg).symm) (fS (fS Bx))
theorem lA {n:Nat} {a:Int} {b:Int} {t:sX} (h:Zh n a b=some t):Dc pg KK.gl 53 [Aa a,Aa b] ((AV.B4 [Aa t.1,Aa t.2])):=
 A1 (by first|rfl|simp [Av,clean,Al,En.Di]) (by first|rfl|simp [Av,clean,Al,En.Di]) (qQ a b _ (Ab4 n a b (C2 ((AV.B4 [Aa t.1,Aa t.2]))) (fun r e u m h=>by rw [e];exact h) h))
theorem Aaa (n:Nat) (a b:TP) (e f:Int) {t:uB} (R:AV→Mem→Prop) (hR:∀r:uB,t=r→∀u m,C2 ((AV.B4 [AV.agg (TP.E.enc r.1),Aa r.2])) u m→R u m):oO n a b e f=some t→F52 a.X a.Y b.X b.Y e f R:=by
 unfold oO F52
 refine Aq (fun _=> ?_) (fun _=> ?_)
 ·refine iq (AV.agg [Aa (0),Aa (0)]) rfl ?_
  refine imp (Ce (sz:=2) Bi Bi rfl rfl (cs:=[Aa (0),Aa (0)]) (cs':=[Aa (0),Aa (0)]) (ty:=42) (by first|rfl|(simp (disch:=first|decide|assumption) only [lk])) rfl rfl) ?_
  exact fun hg=>Dp rfl (hR _ (Option.some.inj hg).symm) (Ck (Gi (E:=TP.E) _ (⟨0,0⟩:TP)) (fS Bx))
 ·refine Aq (fun _=> ?_) (fun _=> ?_)
  ·refine iq (AV.agg [Aa (0),Aa (0)]) rfl ?_
   refine imp (Ce (sz:=2) Bi Bi rfl rfl (cs:=[Aa (0),Aa (0)]) (cs':=[Aa (0),Aa (0)]) (ty:=42) (by first|rfl|(simp (disch:=first|decide|assumption) only [lk])) rfl rfl) ?_
   exact fun hg=>Dp rfl (hR _ (Option.some.inj hg).symm) (Ck (Gi (E:=TP.E) _ (⟨0,0⟩:TP)) (fS Bx))
  ·refine Aq (fun _=> ?_) (fun _=> ?_)
   ·refine iq (AV.agg [Aa (0),Aa (0)]) rfl ?_
    refine imp (Ce (sz:=2) Bi Bi rfl rfl (cs:=[Aa (0),Aa (0)]) (cs':=[Aa (0),Aa (0)]) (ty:=42) (by first|rfl|(simp (disch:=first|decide|assumption) only [lk])) rfl rfl) ?_
    exact fun hg=>Dp rfl (hR _ (Option.some.inj hg).symm) (Ck (Gi (E:=TP.E) _ (⟨0,0⟩:TP)) (fS Bx))
   ·refine Aq (fun _=> ?_) (fun _=> ?_)
    ·refine iq (AV.agg [Aa (0),Aa (0)]) rfl ?_
     refine imp (Ce (sz:=2) Bi Bi rfl rfl (cs:=[Aa (0),Aa (0)]) (cs':=[Aa (0),Aa (0)]) (ty:=42) (by first|rfl|(simp (disch:=first|decide|assumption) only [lk])) rfl rfl) ?_
     exact fun hg=>Dp rfl (hR _ (Option.some.inj hg).symm) (Ck (Gi (E:=TP.E) _ (⟨0,0⟩:TP)) (fS Bx))
    ·refine At fun o g=> ?_
     refine imp (An (Ya g)) ?_
     refine imp Ai ?_
     refine Aq (fun _=> ?_) (fun _=> ?_)
     ·refine iq (AV.agg [Aa (0),Aa (0)]) rfl ?_
      refine At fun p h=> ?_
      refine imp (An (Ya h)) ?_
      refine imp Ai ?_
      refine imp (Ce (sz:=2) Bi Bi rfl rfl (cs:=[Aa (0),Aa (0)]) (cs':=[Aa (0),Aa (0)]) (ty:=42) (by first|rfl|(simp (disch:=first|decide|assumption) only [lk])) rfl rfl) ?_
      exact fun hg=>Dp rfl (hR _ (Option.some.inj hg).symm) (Ck (Gi (E:=TP.E) _ (⟨0,0⟩:TP)) (fS Bx))
     ·refine At fun q i=> ?_
      refine imp (An (Ya i)) ?_
      refine imp Ai ?_
      refine Aq (fun _=> ?_) (fun _=> ?_)
      ·refine iq (AV.agg [Aa (0),Aa (0)]) rfl ?_
       refine At fun s j=> ?_
       refine imp (An (Ya j)) ?_
       refine imp Ai ?_
       refine imp (Ce (sz:=2) Bi Bi rfl rfl (cs:=[Aa (0),Aa (0)]) (cs':=[Aa (0),Aa (0)]) (ty:=42) (by first|rfl|(simp (disch:=first|decide|assumption) only [lk])) rfl rfl) ?_
       exact fun hg=>Dp rfl (hR _ (Option.some.inj hg).symm) (Ck (Gi (E:=TP.E) _ (⟨0,0⟩:TP)) (fS Bx))
      ·refine At fun c k=> ?_
       refine imp (An (lA k)) ?_
       refine imp Dk ?_
       iterate 2 refine imp Ai ?_
       refine At fun d l=> ?_
       refine imp (An (lA l)) ?_
       refine imp Dk ?_
       iterate 2 refine imp Ai ?_
       refine iq (AV.agg [Aa (IntKind.wrap .i64 (a.X+c.1)),Aa (IntKind.wrap .i64 (a.Y+d.1))]) rfl ?_
       refine imp (Ce (sz:=2) Bi Bi rfl rfl (cs:=[Aa (0),Aa (0)]) (cs':=[Aa (IntKind.wrap .i64 (a.X+c.1)),Aa (IntKind.wrap .i64 (a.Y+d.1))]) (ty:=42) (by first|rfl|(simp (disch:=first|decide|assumption) only [lk])) rfl rfl) ?_
       exact fun hg=>Dp rfl (hR _ (Option.some.inj hg).symm) (Ck (Gi (E:=TP.E) _ (⟨IntKind.wrap .i64 (a.X+c.1),IntKind.wrap .i64 (a.Y+d.1)⟩:TP)) (fS Bx))
theorem Af3 {n:Nat} {a:TP} {b:TP} {c:Int} {d:Int} {t:uB} (h:oO n a b c d=some t):Dc pg KK.gl 52 [AV.agg [Aa a.X,Aa a.Y],AV.agg [Aa b.X,Aa b.Y],Aa c,Aa d] ((AV.B4 [AV.agg (TP.E.enc t.1),Aa t.2])):=
 A1 (by first|rfl|simp [Av,clean,Al,En.Di]) (by first|rfl|simp [Av,clean,Al,En.Di]) (r8 a.X a.Y b.X b.Y c d _ (Aaa n a b c d (C2 ((AV.B4 [AV.agg (TP.E.enc t.1),Aa t.2]))) (fun r e u m h=>by rw [e];exact h) h))
theorem Aa5 (n:Nat) (a b:Int) {t:pT} (R:AV→Mem→Prop) (hR:∀r:pT,t=r→∀u m,C2 ((AV.B4 [Aa r.1,Aa r.2])) u m→R u m):W1 n a b=some t→F54 a b R:=by
 unfold W1 F54
 refine At fun f c=> ?_
 refine imp (An (lA c)) ?_
 refine imp Dk ?_
 iterate 2 refine imp Ai ?_
 refine Aq (fun _=> ?_) (fun _=> ?_)
 ·refine At fun d e=> ?_
  refine iq (Aa d) (Ws e) ?_
  refine imp Ai ?_
  refine Aq (fun _=> ?_) (fun _=> ?_)
  ·exact fun hg=>Dp rfl (hR _ (Option.some.inj hg).symm) (fS (fS Bx))
  ·exact fun hg=>Dp rfl (hR _ (Option.some.inj hg).symm) (fS (fS Bx))
 ·exact fun hg=>Dp rfl (hR _ (Option.some.inj hg).symm) (fS (fS Bx))
theorem fH {n:Nat} {a:Int} {b:Int} {t:pT} (h:W1 n a b=some t):Dc pg KK.gl 54 [Aa a,Aa b] ((AV.B4 [Aa t.1,Aa t.2])):=
 A1 (by first|rfl|simp [Av,clean,Al,En.Di]) (by first|rfl|simp [Av,clean,Al,En.Di]) (sP a b _ (Aa5 n a b (C2 ((AV.B4 [Aa t.1,Aa t.2]))) (fun r e u m h=>by rw [e];exact h) h))
theorem Aak (n:Nat) (j:List Ab) (f:Int) {t:w5} (R:AV→Mem→Prop) (hR:∀r:w5,t=r→∀u m,C2 ((AV.agg (Ab.E.enc r))) u m→R u m):aE n j f=some t→F39 (As Ab.E j) f R:=by
 unfold aE F39
 refine At fun x k=> ?_
 refine imp (Nc (Agi k)) ?_
 refine imp Dk ?_
 refine imp Ai ?_
 refine imp Eh ?_
 refine Aq (fun _=> ?_) (fun _=> ?_)
 ·refine At fun d l=> ?_
  refine iq (AV.Dn [Aa d.Ac,Aa d.Ak,Aa d.Aj,Aa d.Ad,Aa d.Ay,Aa d.Br] 0) (C5 (E:=Ab.E) rfl l) ?_
  refine iq (AV.agg [Aa d.Ac,Aa d.Ak,Aa d.Aj,Aa d.Ad,Aa d.Ay,Aa d.Br]) rfl ?_
  refine imp Fp ?_
  iterate 6 refine imp Ai ?_
  refine imp (Ce (sz:=6) Bi Bi rfl rfl (cs:=[Aa (0),Aa (0),Aa (0),Aa (0),Aa (0),Aa (0)]) (cs':=[Aa d.Ac,Aa d.Ak,Aa d.Aj,Aa d.Ad,Aa d.Ay,Aa d.Br]) (ty:=47) (by first|rfl|(simp (disch:=first|decide|assumption) only [lk])) rfl rfl) ?_
  exact fun hg=>Ut (hR _ (Option.some.inj hg).symm) (Gi (E:=Ab.E) _ d)
 ·refine At fun a o=> ?_
  refine imp (Gk (show _=some ((AV.Dn [Aa a.Ac,Aa a.Ak,Aa a.Aj,Aa a.Ad,Aa a.Ay,Aa a.Br] 0),[]) from (C5 (E:=Ab.E) rfl o))) ?_
  refine imp (Gk (show _=some ((AV.agg [Aa a.Ac,Aa a.Ak,Aa a.Aj,Aa a.Ad,Aa a.Ay,Aa a.Br]),[]) from rfl)) ?_
  refine imp Fp ?_
  iterate 6 refine imp Ai ?_
  refine At fun c p=> ?_
  refine imp (Gk (show _=some ((AV.Dn [Aa c.Ac,Aa c.Ak,Aa c.Aj,Aa c.Ad,Aa c.Ay,Aa c.Br] 0),[]) from (C5 (E:=Ab.E) rfl p))) ?_
  refine imp (Gk (show _=some ((AV.agg [Aa c.Ac,Aa c.Ak,Aa c.Aj,Aa c.Ad,Aa c.Ay,Aa c.Br]),[]) from rfl)) ?_
  refine imp Fp ?_
  iterate 6 refine imp Ai ?_
  refine imp (Ce (sz:=6) Bi Bi rfl rfl (cs:=[Aa (0),Aa (0),Aa (0),Aa (0),Aa (0),Aa (0)]) (cs':=[Aa a.Ac,Aa a.Ak,Aa a.Aj,Aa a.Ad,Aa a.Ay,Aa a.Br]) (ty:=47) (by first|rfl|(rw [H5 (by first|rfl|simp [H4]|simp [Bv])];first|rfl|(simp (disch:=first|decide|assumption) only [lk]))) rfl rfl) ?_
  refine imp (Ce (sz:=6) Bi Bi rfl rfl (cs:=[Aa (0),Aa (0),Aa (0),Aa (0),Aa (0),Aa (0)]) (cs':=[Aa c.Ac,Aa c.Ak,Aa c.Aj,Aa c.Ad,Aa c.Ay,Aa c.Br]) (ty:=47) (by first|rfl|(rw [H5 (by first|rfl|simp [H4]|simp [Bv])];first|rfl|(simp (disch:=first|decide|assumption) only [lk]))) rfl rfl) ?_
  refine imp (Ei Bi) ?_
  refine iq (Aa a.Ac) (Cp (b:=⟨[Aa a.Ac,Aa a.Ak,Aa a.Aj,Aa a.Ad,Aa a.Ay,Aa a.Br],47⟩) (by first|rfl|(simp (disch:=first|decide|assumption) only [lk])) rfl) ?_
  refine imp Ai ?_
  refine iq (Aa c.Ac) (Cp (b:=⟨[Aa c.Ac,Aa c.Ak,Aa c.Aj,Aa c.Ad,Aa c.Ay,Aa c.Br],47⟩) (by first|rfl|(simp (disch:=first|decide|assumption) only [lk])) rfl) ?_
  refine imp Ai ?_
  refine iq (Aa a.Ac) (Cp (b:=⟨[Aa a.Ac,Aa a.Ak,Aa a.Aj,Aa a.Ad,Aa a.Ay,Aa a.Br],47⟩) (by first|rfl|(simp (disch:=first|decide|assumption) only [lk])) rfl) ?_
  refine imp Ai ?_
  refine iq (AV.agg [Aa a.Ak,Aa a.Aj]) (Ef (b:=⟨[Aa a.Ac,Aa a.Ak,Aa a.Aj,Aa a.Ad,Aa a.Ay,Aa a.Br],47⟩) (by first|rfl|(simp (disch:=first|decide|assumption) only [lk])) rfl) ?_
  refine imp Fe ?_
  iterate 2 refine imp Ai ?_
  refine iq (AV.agg [Aa c.Ak,Aa c.Aj]) (Ef (b:=⟨[Aa c.Ac,Aa c.Ak,Aa c.Aj,Aa c.Ad,Aa c.Ay,Aa c.Br],47⟩) (by first|rfl|(simp (disch:=first|decide|assumption) only [lk])) rfl) ?_
  refine imp Fe ?_
  iterate 2 refine imp Ai ?_
  refine At fun e q=> ?_
  refine imp (An (Af3 q)) ?_
  refine imp Dk ?_
  refine imp Fe ?_
  iterate 3 refine imp Ai ?_
  refine iq (Aa c.Ad) (Cp (b:=⟨[Aa c.Ac,Aa c.Ak,Aa c.Aj,Aa c.Ad,Aa c.Ay,Aa c.Br],47⟩) (by first|rfl|(simp (disch:=first|decide|assumption) only [lk])) rfl) ?_
  refine imp Ai ?_
  refine iq (Aa a.Ad) (Cp (b:=⟨[Aa a.Ac,Aa a.Ak,Aa a.Aj,Aa a.Ad,Aa a.Ay,Aa a.Br],47⟩) (by first|rfl|(simp (disch:=first|decide|assumption) only [lk])) rfl) ?_
  refine imp Ai ?_
  refine At fun g s=> ?_
  refine imp (An (lA s)) ?_
  refine imp Dk ?_
  iterate 2 refine imp Ai ?_
  refine iq (Aa c.Ay) (Cp (b:=⟨[Aa c.Ac,Aa c.Ak,Aa c.Aj,Aa c.Ad,Aa c.Ay,Aa c.Br],47⟩) (by first|rfl|(simp (disch:=first|decide|assumption) only [lk])) rfl) ?_
  refine imp Ai ?_
  refine iq (Aa a.Ay) (Cp (b:=⟨[Aa a.Ac,Aa a.Ak,Aa a.Aj,Aa a.Ad,Aa a.Ay,Aa a.Br],47⟩) (by first|rfl|(simp (disch:=first|decide|assumption) only [lk])) rfl) ?_
  refine imp Ai ?_
  refine At fun h v=> ?_
  refine imp (An (fH v)) ?_
  refine imp Dk ?_
  iterate 2 refine imp Ai ?_
  refine iq (Aa c.Br) (Cp (b:=⟨[Aa c.Ac,Aa c.Ak,Aa c.Aj,Aa c.Ad,Aa c.Ay,Aa c.Br],47⟩) (by first|rfl|(simp (disch:=first|decide|assumption) only [lk])) rfl) ?_
  refine imp Ai ?_
  refine iq (Aa a.Br) (Cp (b:=⟨[Aa a.Ac,Aa a.Ak,Aa a.Aj,Aa a.Ad,Aa a.Ay,Aa a.Br],47⟩) (by first|rfl|(simp (disch:=first|decide|assumption) only [lk])) rfl) ?_
  refine imp Ai ?_
  refine At fun i w=> ?_
  refine imp (An (fH w)) ?_
  refine imp Dk ?_
  iterate 2 refine imp Ai ?_
  refine iq (Aa a.Ad) (Cp (b:=⟨[Aa a.Ac,Aa a.Ak,Aa a.Aj,Aa a.Ad,Aa a.Ay,Aa a.Br],47⟩) (by first|rfl|(simp (disch:=first|decide|assumption) only [lk])) rfl) ?_
  refine imp Ai ?_
  refine iq (AV.agg [Aa f,Aa e.1.X,Aa e.1.Y,Aa (IntKind.wrap .i64 (a.Ad+g.1))]) rfl ?_
  refine iq (Aa a.Ay) (Cp (b:=⟨[Aa a.Ac,Aa a.Ak,Aa a.Aj,Aa a.Ad,Aa a.Ay,Aa a.Br],47⟩) (by first|rfl|(simp (disch:=first|decide|assumption) only [lk])) rfl) ?_
  refine imp Ai ?_
  refine iq (Aa a.Br) (Cp (b:=⟨[Aa a.Ac,Aa a.Ak,Aa a.Aj,Aa a.Ad,Aa a.Ay,Aa a.Br],47⟩) (by first|rfl|(simp (disch:=first|decide|assumption) only [lk])) rfl) ?_
  refine imp Ai ?_
  refine iq (AV.agg [Aa f,Aa e.1.X,Aa e.1.Y,Aa (IntKind.wrap .i64 (a.Ad+g.1)),Aa (IntKind.wrap .i64 (a.Ay+h.1)),Aa (IntKind.wrap .i64 (a.Br+i.1))]) rfl ?_
  refine imp (Ce (sz:=6) Bi Bi rfl rfl (cs:=[Aa (0),Aa (0),Aa (0),Aa (0),Aa (0),Aa (0)]) (cs':=[Aa f,Aa e.1.X,Aa e.1.Y,Aa (IntKind.wrap .i64 (a.Ad+g.1)),Aa (IntKind.wrap .i64 (a.Ay+h.1)),Aa (IntKind.wrap .i64 (a.Br+i.1))]) (ty:=47) (by first|rfl|(simp (disch:=first|decide|assumption) only [lk])) rfl rfl) ?_
  exact fun hg=>Ut (hR _ (Option.some.inj hg).symm) (Gi (E:=Ab.E) _ (⟨f,e.1.X,e.1.Y,IntKind.wrap .i64 (a.Ad+g.1),IntKind.wrap .i64 (a.Ay+h.1),IntKind.wrap .i64 (a.Br+i.1)⟩:Ab))
theorem Ag9 {n:Nat} {a:List Ab} {b:Int} {t:w5} (h:aE n a b=some t):Dc pg KK.gl 39 [As Ab.E a,Aa b] ((AV.agg (Ab.E.enc t))):=
 A1 (by first|rfl|simp [Av,clean,Al,En.Di]) (by first|rfl|simp [Av,clean,Al,En.Di]) (uD (As Ab.E a) b _ (Aak n a b (C2 ((AV.agg (Ab.E.enc t)))) (fun r e u m h=>by rw [e];exact h) h))
theorem yC (n:Nat) (a:List Ab) (b:Int) {t:wI} (R:AV→Mem→Prop) (hR:∀r:wI,t=r→∀u m,C2 ((AV.B4 [AV.agg (Ab.E.enc r.1),Aa r.2])) u m→R u m):P4 n a b=some t→F21 (As Ab.E a) b R:=by
 unfold P4 F21
 refine At fun g c=> ?_
 refine imp (An (hG c)) ?_
 refine imp Ai ?_
 refine Aq (fun _=> ?_) (fun _=> ?_)
 ·refine iq (AV.agg [Aa (0),Aa (0),Aa (0),Aa (0),Aa (0),Aa (0)]) rfl ?_
  refine imp (Ce (sz:=6) Bi Bi rfl rfl (cs:=[Aa (0),Aa (0),Aa (0),Aa (0),Aa (0),Aa (0)]) (cs':=[Aa (0),Aa (0),Aa (0),Aa (0),Aa (0),Aa (0)]) (ty:=47) (by first|rfl|(simp (disch:=first|decide|assumption) only [lk])) rfl rfl) ?_
  exact fun hg=>Dp rfl (hR _ (Option.some.inj hg).symm) (Ck (Gi (E:=Ab.E) _ (⟨0,0,0,0,0,0⟩:Ab)) (fS Bx))
 ·refine At fun h d=> ?_
  refine imp (An (Agc d)) ?_
  refine imp Dk ?_
  iterate 2 refine imp Ai ?_
  refine Aq (fun _=> ?_) (fun _=> ?_)
  ·refine iq (AV.agg [Aa (0),Aa (0),Aa (0),Aa (0),Aa (0),Aa (0)]) rfl ?_
   refine imp (Ce (sz:=6) Bi Bi rfl rfl (cs:=[Aa (0),Aa (0),Aa (0),Aa (0),Aa (0),Aa (0)]) (cs':=[Aa (0),Aa (0),Aa (0),Aa (0),Aa (0),Aa (0)]) (ty:=47) (by first|rfl|(simp (disch:=first|decide|assumption) only [lk])) rfl rfl) ?_
   exact fun hg=>Dp rfl (hR _ (Option.some.inj hg).symm) (Ck (Gi (E:=Ab.E) _ (⟨0,0,0,0,0,0⟩:Ab)) (fS Bx))
  ·refine Aq (fun _=> ?_) (fun _=> ?_)
   ·refine iq (AV.agg [Aa (0),Aa (0),Aa (0),Aa (0),Aa (0),Aa (0)]) rfl ?_
    refine imp (Ce (sz:=6) Bi Bi rfl rfl (cs:=[Aa (0),Aa (0),Aa (0),Aa (0),Aa (0),Aa (0)]) (cs':=[Aa (0),Aa (0),Aa (0),Aa (0),Aa (0),Aa (0)]) (ty:=47) (by first|rfl|(simp (disch:=first|decide|assumption) only [lk])) rfl rfl) ?_
    exact fun hg=>Dp rfl (hR _ (Option.some.inj hg).symm) (Ck (Gi (E:=Ab.E) _ (⟨0,0,0,0,0,0⟩:Ab)) (fS Bx))
   ·refine At fun e f=> ?_
    refine imp (An (Ag9 f)) ?_
    refine imp Fp ?_
    iterate 6 refine imp Ai ?_
    exact fun hg=>Dp rfl (hR _ (Option.some.inj hg).symm) (Ck (Gi (E:=Ab.E) _ e) (fS Bx))
theorem mG {n:Nat} {a:List Ab} {b:Int} {t:wI} (h:P4 n a b=some t):Dc pg KK.gl 21 [As Ab.E a,Aa b] ((AV.B4 [AV.agg (Ab.E.enc t.1),Aa t.2])):=
 A1 (by first|rfl|simp [Av,clean,Al,En.Di]) (by first|rfl|simp [Av,clean,Al,En.Di]) (vV (As Ab.E a) b _ (yC n a b (C2 ((AV.B4 [AV.agg (Ab.E.enc t.1),Aa t.2]))) (fun r e u m h=>by rw [e];exact h) h))
theorem Aca (n:Nat) (a b:TP) {t:o8} (R:AV→Mem→Prop) (hR:∀r:o8,t=r→∀u m,C2 ((AV.agg (TP.E.enc r))) u m→R u m):zR n a b=some t→F42 a.X a.Y b.X b.Y R:=by
 unfold zR F42
 refine iq (AV.agg [Aa (IntKind.wrap .i64 (a.X-b.X)),Aa (IntKind.wrap .i64 (a.Y-b.Y))]) rfl ?_
 refine imp (Ce (sz:=2) Bi Bi rfl rfl (cs:=[Aa (0),Aa (0)]) (cs':=[Aa (IntKind.wrap .i64 (a.X-b.X)),Aa (IntKind.wrap .i64 (a.Y-b.Y))]) (ty:=42) (by first|rfl|(simp (disch:=first|decide|assumption) only [lk])) rfl rfl) ?_
 exact fun hg=>Ut (hR _ (Option.some.inj hg).symm) (Gi (E:=TP.E) _ (⟨IntKind.wrap .i64 (a.X-b.X),IntKind.wrap .i64 (a.Y-b.Y)⟩:TP))
theorem Aeq {n:Nat} {a:TP} {b:TP} {t:o8} (h:zR n a b=some t):Dc pg KK.gl 42 [AV.agg [Aa a.X,Aa a.Y],AV.agg [Aa b.X,Aa b.Y]] ((AV.agg (TP.E.enc t))):=
 A1 (by first|rfl|simp [Av,clean,Al,En.Di]) (by first|rfl|simp [Av,clean,Al,En.Di]) (uS a.X a.Y b.X b.Y _ (Aca n a b (C2 ((AV.agg (TP.E.enc t)))) (fun r e u m h=>by rw [e];exact h) h))
theorem Abh (n:Nat) (a b:TP) {t:pP} (R:AV→Mem→Prop) (hR:∀r:pP,t=r→∀u m,C2 ((Aa r)) u m→R u m):g78 n a b=some t→F78 a.X a.Y b.X b.Y R:=by
 unfold g78 F78
 exact C9 hR rfl rfl
theorem Agz {n:Nat} {a:TP} {b:TP} {t:pP} (h:g78 n a b=some t):Dc pg KK.gl 78 [AV.agg [Aa a.X,Aa a.Y],AV.agg [Aa b.X,Aa b.Y]] ((Aa t)):=
 A1 (by first|rfl|simp [Av,clean,Al,En.Di]) (by first|rfl|simp [Av,clean,Al,En.Di]) (pZ a.X a.Y b.X b.Y _ (Abh n a b (C2 ((Aa t))) (fun r e u m h=>by rw [e];exact h) h))
theorem Ab6 (n:Nat) (a b:TP) {t:pI} (R:AV→Mem→Prop) (hR:∀r:pI,t=r→∀u m,C2 ((Aa r)) u m→R u m):g60 n a b=some t→F60 a.X a.Y b.X b.Y R:=by
 unfold g60 F60
 refine At fun e c=> ?_
 refine imp (An (Aeq c)) ?_
 refine imp Fe ?_
 iterate 2 refine imp Ai ?_
 refine At fun f d=> ?_
 refine imp (An (Agz d)) ?_
 refine imp Ai ?_
 exact C9 hR rfl rfl
theorem Agh {n:Nat} {a:TP} {b:TP} {t:pI} (h:g60 n a b=some t):Dc pg KK.gl 60 [AV.agg [Aa a.X,Aa a.Y],AV.agg [Aa b.X,Aa b.Y]] ((Aa t)):=
 A1 (by first|rfl|simp [Av,clean,Al,En.Di]) (by first|rfl|simp [Av,clean,Al,En.Di]) (vE a.X a.Y b.X b.Y _ (Ab6 n a b (C2 ((Aa t))) (fun r e u m h=>by rw [e];exact h) h))
theorem nL (n:Nat) (a b c d:Int) {t:(Int×Int)⊕Ux} (R:AV→Mem→Prop) (N0:St→Prop) (hR:∀r:Ux,t=(.inr r)→∀u m,C2 ((Aa r)) u m→R u m) (hN0:∀y:Int×Int,t=(.inl y)→∀s':St,Cl KK 27 0 s' (Uc a b y.1 y.2 [])→N0 s'):Mv n a b c d=some t→dN a b c d [] R N0:=by
 unfold Mv dN
 refine Aq (fun _=> ?_) (fun _=> ?_)
 ·refine Aq (fun _=> ?_) (fun _=> ?_)
  ·exact fun hg=>hN0 _ (Option.some.inj hg).symm _ (Bc [] rfl rfl rfl (oR (oR (oR (oR Bn)))) Bb)
  ·exact fun hg=>hN0 _ (Option.some.inj hg).symm _ (Bc [] rfl rfl rfl (oR (oR (oR (oR Bn)))) Bb)
 ·exact C9 hR rfl rfl
theorem lR (n:Nat) (a b:Int) {t:Ux} (R:AV→Mem→Prop) (hR:∀r:Ux,t=r→∀u m,C2 ((Aa r)) u m→R u m) (k:Nat) (x:Int×Int) (hx:Bt (fun y:Int×Int=>Mv n a b y.1 y.2) k x=some t) {s:St} (hw:Cl KK 27 0 s (Uc a b x.1 x.2 [])):C6 pg KK 27 0 (.loop bC) s (dQ R):=
 Ac3 R (σ:=Nat×(Int×Int)) (fun z=>Bt (fun y:Int×Int=>Mv n a b y.1 y.2) z.1 z.2=some t) (fun z=>a) (fun z=>b) (fun z=>z.2.1) (fun z=>z.2.2) (fun z=>[]) (fun z=>z.1) (by
  rintro ⟨k,y⟩ h
  cases k with
  |zero=>exact (Cz h).elim
  |succ k=>
   obtain ⟨u,c,d,f⟩:=Cv h
   exact nL n a b y.1 y.2 R _ (fun r e=>hR r (f _ e).symm) (fun y' e s' hw=>⟨(k,y'),d _ e,Nat.lt_succ_self k,hw⟩) c) (k,x) hx hw
theorem Acv (n:Nat) (a:Int) {t:Ux} (R:AV→Mem→Prop) (hR:∀r:Ux,t=r→∀u m,C2 ((Aa r)) u m→R u m):xM n a=some t→F61 a R:=by
 unfold xM F61
 refine Aq (fun _=> ?_) (fun _=> ?_)
 ·exact C9 hR rfl rfl
 ·exact fun hg=>lR n a (0) R hR n _ hg (Bc [] rfl rfl rfl (oR (oR (oR (oR Bn)))) Bb)
theorem Afx {n:Nat} {a:Int} {t:Ux} (h:xM n a=some t):Dc pg KK.gl 61 [Aa a] ((Aa t)):=
 A1 (by first|rfl|simp [Av,clean,Al,En.Di]) (by first|rfl|simp [Av,clean,Al,En.Di]) (xF a _ (Acv n a (C2 ((Aa t))) (fun r e u m h=>by rw [e];exact h) h))
theorem Acp (n:Nat) (a b:TP) {t:rM} (R:AV→Mem→Prop) (hR:∀r:rM,t=r→∀u m,C2 ((AV.B4 [Aa r.1,Aa r.2])) u m→R u m):aG n a b=some t→F43 a.X a.Y b.X b.Y R:=by
 unfold aG F43
 refine At fun e c=> ?_
 refine imp (An (Agh c)) ?_
 refine imp Ai ?_
 refine At fun f d=> ?_
 refine imp (An (Afx d)) ?_
 refine imp Ai ?_
 refine Aq (fun _=> ?_) (fun _=> ?_)
 ·exact fun hg=>Dp rfl (hR _ (Option.some.inj hg).symm) (fS (fS Bx))
 ·exact fun hg=>Dp rfl (hR _ (Option.some.inj hg).symm) (fS (fS Bx))
theorem jX {n:Nat} {a:TP} {b:TP} {t:rM} (h:aG n a b=some t):Dc pg KK.gl 43 [AV.agg [Aa a.X,Aa a.Y],AV.agg [Aa b.X,Aa b.Y]] ((AV.B4 [Aa t.1,Aa t.2])):=
 A1 (by first|rfl|simp [Av,clean,Al,En.Di]) (by first|rfl|simp [Av,clean,Al,En.Di]) (pH a.X a.Y b.X b.Y _ (Acp n a b (C2 ((AV.B4 [Aa t.1,Aa t.2]))) (fun r e u m h=>by rw [e];exact h) h))
theorem Aa6 (n:Nat) (a b:Ab) (c:Ea) {t:vN} (R:AV→Mem→Prop) (hR:∀r:vN,t=r→∀u m,C2 ((Ah r)) u m→R u m):g83 n a b c=some t→F83 a.Ac a.Ak a.Aj a.Ad a.Ay a.Br b.Ac b.Ak b.Aj b.Ad b.Ay b.Br c.Bu c.Bj R:=by
 unfold g83 F83
 refine At fun e d=> ?_
 refine imp (An (jX d)) ?_
 refine imp Dk ?_
 iterate 2 refine imp Ai ?_
 refine Aq (fun _=> ?_) (fun _=> ?_)
 ·exact C9 hR rfl rfl
 ·refine iq (Aa (if (IntKind.wrap .i64 (b.Ad-a.Ad))>(IntKind.wrap .i64 (a.Ad-b.Ad)) then (IntKind.wrap .i64 (b.Ad-a.Ad)) else (IntKind.wrap .i64 (a.Ad-b.Ad)))) Bi ?_
  refine imp Ai ?_
  exact C9 hR rfl rfl
theorem Afm {n:Nat} {a:Ab} {b:Ab} {c:Ea} {t:vN} (h:g83 n a b c=some t):Dc pg KK.gl 83 [AV.agg [Aa a.Ac,Aa a.Ak,Aa a.Aj,Aa a.Ad,Aa a.Ay,Aa a.Br],AV.agg [Aa b.Ac,Aa b.Ak,Aa b.Aj,Aa b.Ad,Aa b.Ay,Aa b.Br],AV.agg [Aa c.Bu,Aa c.Bj]] ((Ah t)):=
 A1 (by first|rfl|simp [Av,clean,Al,En.Di]) (by first|rfl|simp [Av,clean,Al,En.Di]) (oV a.Ac a.Ak a.Aj a.Ad a.Ay a.Br b.Ac b.Ak b.Aj b.Ad b.Ay b.Br c.Bu c.Bj _ (Aa6 n a b c (C2 ((Ah t))) (fun r e u m h=>by rw [e];exact h) h))
theorem nI (n:Nat) (e f:List Ab) (c9 c d a:Int) (b:List Cc) {t:(Int×List Cc)⊕Vw} (R:AV→Mem→Prop) (N0:St→Prop) (hR:∀r:Vw,t=(.inr r)→∀u m,C2 ((As Cc.E r)) u m→R u m) (hN0:∀y:Int×List Cc,t=(.inl y)→∀s':St,Cl KK 73 0 s' (Tp (As Ab.E e) (As Ab.E f) AV.B1 (B7 Cc.E 90000 y.2) c9 y.1 c d [(90000,C7 Cc.E 95 y.2)])→N0 s'):Rx n e f c9 c d a b=some t→bL (As Ab.E e) (As Ab.E f) AV.B1 (B7 Cc.E 90000 b) c9 a c d [(90000,C7 Cc.E 95 b)] R N0:=by
 unfold Rx bL
 refine Aq (fun _=> ?_) (fun _=> ?_)
 ·refine At fun x k=> ?_
  refine imp (An (mG k)) ?_
  refine imp Dk ?_
  refine imp Fp ?_
  iterate 7 refine imp Ai ?_
  refine At fun z p=> ?_
  refine imp (An (mG p)) ?_
  refine imp Dk ?_
  refine imp Fp ?_
  iterate 7 refine imp Ai ?_
  refine At fun aa q=> ?_
  refine imp (An (Afm q)) ?_
  refine imp Eh ?_
  refine Aq (fun _=> ?_) (fun _=> ?_)
  ·exact fun hg=>hN0 _ (Option.some.inj hg).symm _ (Bc [(90000,90000),(0,0)] rfl rfl rfl (A9 (Bz (E:=Ab.E) _ false) (A9 (Bz (E:=Ab.E) _ false) (oR (oR (A9 (F1 (E:=Cc.E) (id:=90000) (l':=b) rfl rfl) (oR (oR Bn))))))) (Ao (Aw (cs:=[Aa c,Aa d]) (ty:=24) rfl (show Am _ 0=_ from (by first|rfl|(simp (disch:=first|decide|assumption) only [lk])))) (Ao (Da (E:=Cc.E) (ty:=95) (l':=b) rfl (show Am _ 90000=_ from (by first|rfl|(simp (disch:=first|decide|assumption) only [lk])))) Bb)))
  ·refine imp (Cj (show _=some ((Aa (b.length:Int)),[]) from H7)) ?_
   refine imp Ai ?_
   refine Aq (fun _=> ?_) (fun _=> ?_)
   ·refine At fun s g=> ?_
    refine iq (AV.ptr 90000 ((((IntKind.wrap .i64 ((b.length:Int)-(1))):Int).toNat)*2+0)) (G1 (E:=Cc.E) rfl g) ?_
    refine iq (AV.ptr 90000 ((((IntKind.wrap .i64 ((b.length:Int)-(1))):Int).toNat)*2+1)) rfl ?_
    refine iq (Aa s.To) (Km (E:=Cc.E) (l:=b) (ty:=95) (o:=1) (Gd (ty:=95) (by first|rfl|(simp (disch:=first|decide|assumption) only [lk])) (C0 g).2) (C0 g).2 rfl (by decide) rfl) ?_
    refine imp Ai ?_
    refine Aq (fun _=> ?_) (fun _=> ?_)
    ·refine At fun h j=> ?_
     refine iq (AV.ptr 90000 ((((IntKind.wrap .i64 ((b.length:Int)-(1))):Int).toNat)*2+0)) (G1 (E:=Cc.E) rfl j) ?_
     refine iq (AV.ptr 90000 ((((IntKind.wrap .i64 ((b.length:Int)-(1))):Int).toNat)*2+1)) rfl ?_
     refine imp (Ks (E:=Cc.E) (l:=b) (i:=(((IntKind.wrap .i64 ((b.length:Int)-(1))):Int).toNat)) (o:=1) (y:=(⟨h.Sr,IntKind.wrap .i64 (a+(1))⟩:Cc)) (ty:=95) Bi Bi rfl (by first|rfl|(simp (disch:=first|decide|assumption) only [lk])) (C0 j).2 rfl (by decide) rfl) ?_
     exact fun hg=>hN0 _ (Option.some.inj hg).symm _ (Bc [(90000,90000),(0,0)] rfl rfl rfl (A9 (Bz (E:=Ab.E) _ false) (A9 (Bz (E:=Ab.E) _ false) (oR (oR (A9 (F1 (E:=Cc.E) (id:=90000) (l':=(b.set (((IntKind.wrap .i64 ((b.length:Int)-(1))):Int).toNat) (⟨h.Sr,IntKind.wrap .i64 (a+(1))⟩:Cc))) (by first|rfl|omega|(simp;done)|(simp;omega)) rfl) (oR (oR Bn))))))) (Ao (Aw (cs:=[Aa c,Aa d]) (ty:=24) rfl (show Am _ 0=_ from (by first|rfl|(simp (disch:=first|decide|assumption) only [lk])))) (Ao (Da (E:=Cc.E) (ty:=95) (l':=(b.set (((IntKind.wrap .i64 ((b.length:Int)-(1))):Int).toNat) (⟨h.Sr,IntKind.wrap .i64 (a+(1))⟩:Cc))) rfl (show Am _ 90000=_ from (by first|rfl|(simp (disch:=first|decide|assumption) only [lk])))) Bb)))
    ·refine iq (AV.agg [Aa a,Aa (IntKind.wrap .i64 (a+(1)))]) rfl ?_
     refine imp (Dv (show _=some ((Ik Cc.E 100234 ([(⟨a,IntKind.wrap .i64 (a+(1))⟩:Cc)]:List Cc)),[(100234,some ⟨Bl Cc.E ([(⟨a,IntKind.wrap .i64 (a+(1))⟩:Cc)]:List Cc),95⟩)]) from rfl)) ?_
     refine At fun ab v=> ?_
     refine imp (Dv (show _=some ((B7 Cc.E 100235 (b++([(⟨a,IntKind.wrap .i64 (a+(1))⟩:Cc)]:List Cc))),(Jy Cc.E 100235 90000 95 b ([(⟨a,IntKind.wrap .i64 (a+(1))⟩:Cc)]:List Cc))) from (Jl (E:=Cc.E) (l':=b) (xs:=([(⟨a,IntKind.wrap .i64 (a+(1))⟩:Cc)]:List Cc)) rfl rfl (Fw (E:=Cc.E) (ty:=95) rfl rfl (by first|rfl|(simp (disch:=first|decide|assumption) only [lk]))) xW rfl (fun hne=>Eq.trans (by first|rfl|(simp (disch:=first|decide|assumption) only [lk])) (E0 hne)) v))) ?_
     exact fun hg=>hN0 _ (Option.some.inj hg).symm _ (Bc [(90000,100235),(0,0)] rfl rfl rfl (A9 (Bz (E:=Ab.E) _ false) (A9 (Bz (E:=Ab.E) _ false) (oR (oR (A9 (F1 (E:=Cc.E) (id:=100235) (l':=(b++([(⟨a,IntKind.wrap .i64 (a+(1))⟩:Cc)]:List Cc))) rfl rfl) (oR (oR Bn))))))) (Ao (Aw (cs:=[Aa c,Aa d]) (ty:=24) rfl (show Am _ 0=_ from (by first|rfl|(simp (disch:=first|decide|assumption) only [lk])))) (Ao (Da (E:=Cc.E) (ty:=95) (l':=(b++([(⟨a,IntKind.wrap .i64 (a+(1))⟩:Cc)]:List Cc))) rfl (show Am _ 100235=_ from (by first|rfl|(simp (disch:=first|decide|assumption) only [lk])))) Bb)))
   ·refine iq (AV.agg [Aa a,Aa (IntKind.wrap .i64 (a+(1)))]) rfl ?_
    refine imp (Dv (show _=some ((Ik Cc.E 100226 ([(⟨a,IntKind.wrap .i64 (a+(1))⟩:Cc)]:List Cc)),[(100226,some ⟨Bl Cc.E ([(⟨a,IntKind.wrap .i64 (a+(1))⟩:Cc)]:List Cc),95⟩)]) from rfl)) ?_
    refine At fun ad w=> ?_
    refine imp (Dv (show _=some ((B7 Cc.E 100227 (b++([(⟨a,IntKind.wrap .i64 (a+(1))⟩:Cc)]:List Cc))),(Jy Cc.E 100227 90000 95 b ([(⟨a,IntKind.wrap .i64 (a+(1))⟩:Cc)]:List Cc))) from (Jl (E:=Cc.E) (l':=b) (xs:=([(⟨a,IntKind.wrap .i64 (a+(1))⟩:Cc)]:List Cc)) rfl rfl (Fw (E:=Cc.E) (ty:=95) rfl rfl (by first|rfl|(simp (disch:=first|decide|assumption) only [lk]))) xW rfl (fun hne=>Eq.trans (by first|rfl|(simp (disch:=first|decide|assumption) only [lk])) (E0 hne)) w))) ?_
    exact fun hg=>hN0 _ (Option.some.inj hg).symm _ (Bc [(90000,100227),(0,0)] rfl rfl rfl (A9 (Bz (E:=Ab.E) _ false) (A9 (Bz (E:=Ab.E) _ false) (oR (oR (A9 (F1 (E:=Cc.E) (id:=100227) (l':=(b++([(⟨a,IntKind.wrap .i64 (a+(1))⟩:Cc)]:List Cc))) rfl rfl) (oR (oR Bn))))))) (Ao (Aw (cs:=[Aa c,Aa d]) (ty:=24) rfl (show Am _ 0=_ from (by first|rfl|(simp (disch:=first|decide|assumption) only [lk])))) (Ao (Da (E:=Cc.E) (ty:=95) (l':=(b++([(⟨a,IntKind.wrap .i64 (a+(1))⟩:Cc)]:List Cc))) rfl (show Am _ 100227=_ from (by first|rfl|(simp (disch:=first|decide|assumption) only [lk])))) Bb)))
 ·exact fun hg=>Ut (hR _ (Option.some.inj hg).symm) (Wv (E:=Cc.E) (ty:=95) (l':=b) _ rfl (by first|rfl|(simp (disch:=first|decide|assumption) only [lk])))
theorem nN (n:Nat) (a b:List Ab) (c9 c d:Int) {t:Vw} (R:AV→Mem→Prop) (hR:∀r:Vw,t=r→∀u m,C2 ((As Cc.E r)) u m→R u m) (k:Nat) (x:Int×List Cc) (hx:Bt (fun y:Int×List Cc=>Rx n a b c9 c d y.1 y.2) k x=some t) {s:St} (hw:Cl KK 73 0 s (Tp (As Ab.E a) (As Ab.E b) AV.B1 (B7 Cc.E 90000 x.2) c9 x.1 c d [(90000,C7 Cc.E 95 x.2)])):C6 pg KK 73 0 (.loop bU) s (cP R):=
 Aey R (σ:=Nat×(Int×List Cc)) (fun z=>Bt (fun y:Int×List Cc=>Rx n a b c9 c d y.1 y.2) z.1 z.2=some t) (fun z=>(As Ab.E a)) (fun z=>(As Ab.E b)) (fun z=>AV.B1) (fun z=>(B7 Cc.E 90000 z.2.2)) (fun z=>c9) (fun z=>z.2.1) (fun z=>c) (fun z=>d) (fun z=>[(90000,C7 Cc.E 95 z.2.2)]) (fun z=>z.1) (by
  rintro ⟨k,y⟩ h
  cases k with
  |zero=>exact (Cz h).elim
  |succ k=>
   obtain ⟨u,f,g,i⟩:=Cv h
   exact nI n a b c9 c d y.1 y.2 R _ (fun r e=>hR r (i _ e).symm) (fun y' e s' hw=>⟨(k,y'),g _ e,Nat.lt_succ_self k,hw⟩) f) (k,x) hx hw
theorem Abg (n:Nat) (b c:List Ab) (a:Ea) {t:Vw} (R:AV→Mem→Prop) (hR:∀r:Vw,t=r→∀u m,C2 ((As Cc.E r)) u m→R u m):g70 n b c a=some t→F70 (As Ab.E b) (As Ab.E c) a.Bu a.Bj R:=by
 unfold g70 F70
 refine At fun d e=> ?_
 refine imp (An (Ag4 e)) ?_
 refine imp Dk ?_
 iterate 2 refine imp Ai ?_
 exact fun hg=>nN n b c d.2 a.Bu a.Bj R hR n _ hg (Bc [(90000,89500),(0,0)] rfl rfl rfl (A9 (Bz (E:=Ab.E) _ false) (A9 (Bz (E:=Ab.E) _ false) (oR (oR (A9 Wh (oR (oR Bn))))))) (Ao (Aw (cs:=[Aa a.Bu,Aa a.Bj]) (ty:=24) rfl (show Am _ 0=_ from (by first|rfl|(simp (disch:=first|decide|assumption) only [lk])))) (Ao Qv Bb)))
theorem Afn {n:Nat} {b:List Ab} {c:List Ab} {a:Ea} {t:Vw} (h:g70 n b c a=some t):Dc pg KK.gl 70 [As Ab.E b,As Ab.E c,AV.agg [Aa a.Bu,Aa a.Bj]] ((As Cc.E t)):=
 A1 (by first|rfl|simp [Av,clean,Al,En.Di]) (by first|rfl|simp [Av,clean,Al,En.Di]) (rH (As Ab.E b) (As Ab.E c) a.Bu a.Bj _ (Abg n b c a (C2 ((As Cc.E t))) (fun r e u m h=>by rw [e];exact h) h))
theorem Ach (n:Nat) (c d:List Ab) (a:Ea) {t:sU} (R:AV→Mem→Prop) (hR:∀r:sU,t=r→∀u m,C2 ((AV.B4 [As Cc.E r.1,Aa r.2])) u m→R u m):g49 n c d a=some t→F49 (As Ab.E c) (As Ab.E d) a.Bu a.Bj R:=by
 unfold g49 F49
 refine imp (Dv (show _=some ((Ik (Ct Ab.E) 6 ([c,d]:List (List Ab))),[(6,some ⟨Bl (Ct Ab.E) ([c,d]:List (List Ab)),32⟩)]) from rfl)) ?_
 refine At fun g e=> ?_
 refine imp (Ri (Hu (Cb (l7 _ (Cb (El _ _) (Cb (El _ _) Fh))) (Cb (oH (E:=(Ct Ab.E)) (ty:=32) (l':=([c,d]:List (List Ab))) _ (Ct.nf Ab.E) rfl (by first|rfl|(simp (disch:=first|decide|assumption) only [lk]))) Fh)) (Af6 e) rfl)) ?_
 refine imp Ai ?_
 refine Aq (fun _=> ?_) (fun _=> ?_)
 ·exact fun hg=>Dp rfl (hR _ (Option.some.inj hg).symm) (Ck (Fu (E:=Cc.E) _) (fS Bx))
 ·refine iq (AV.agg [Aa a.Bu,Aa a.Bj]) (Ef (b:=⟨[Aa a.Bu,Aa a.Bj],24⟩) (by first|rfl|(simp (disch:=first|decide|assumption) only [lk])) rfl) ?_
  refine imp Fe ?_
  iterate 2 refine imp Ai ?_
  refine At fun h f=> ?_
  refine imp (An (Afn f)) ?_
  exact fun hg=>Dp rfl (hR _ (Option.some.inj hg).symm) (Ck (nY (E:=Cc.E) _ _ false) (fS Bx))
theorem Ag0 {n:Nat} {b:List Ab} {c:List Ab} {a:Ea} {t:sU} (h:g49 n b c a=some t):Dc pg KK.gl 49 [As Ab.E b,As Ab.E c,AV.agg [Aa a.Bu,Aa a.Bj]] ((AV.B4 [As Cc.E t.1,Aa t.2])):=
 A1 (by first|rfl|simp [Av,clean,Al,En.Di]) (by first|rfl|simp [Av,clean,Al,En.Di]) (tB (As Ab.E b) (As Ab.E c) a.Bu a.Bj _ (Ach n b c a (C2 ((AV.B4 [As Cc.E t.1,Aa t.2]))) (fun r e u m h=>by rw [e];exact h) h))
theorem zK (n:Nat) (c d:List Ab) (b:Ea) {t:rU} (R:AV→Mem→Prop) (hR:∀r:rU,t=r→∀u m,C2 ((AV.B4 [Aa r.1,Aa r.2])) u m→R u m):lZ n c d b=some t→F34 (As Ab.E c) (As Ab.E d) b.Bu b.Bj R:=by
 unfold lZ F34
 refine At fun e f=> ?_
 refine imp (An (Ag0 f)) ?_
 refine imp Dk ?_
 refine imp Ai ?_
 refine Aq (fun _=> ?_) (fun _=> ?_)
 ·exact fun hg=>Dp rfl (hR _ (Option.some.inj hg).symm) (fS (fS Bx))
 ·refine iq (Aa (e.1.length:Int)) rfl ?_
  refine imp Ai ?_
  refine Aq (fun _=> ?_) (fun _=> ?_)
  ·exact fun hg=>Dp rfl (hR _ (Option.some.inj hg).symm) (fS (fS Bx))
  ·refine At fun a g=> ?_
   refine iq (AV.Dn [Aa a.Sr,Aa a.To] 0) (C5 (E:=Cc.E) rfl g) ?_
   refine iq (AV.Dn [Aa a.Sr,Aa a.To] 0) rfl ?_
   refine iq (Aa a.Sr) rfl ?_
   refine imp Ai ?_
   exact fun hg=>Dp rfl (hR _ (Option.some.inj hg).symm) (fS (fS Bx))
theorem Acl {n:Nat} {b:List Ab} {c:List Ab} {a:Ea} {t:rU} (h:lZ n b c a=some t):Dc pg KK.gl 34 [As Ab.E b,As Ab.E c,AV.agg [Aa a.Bu,Aa a.Bj]] ((AV.B4 [Aa t.1,Aa t.2])):=
 A1 (by first|rfl|simp [Av,clean,Al,En.Di]) (by first|rfl|simp [Av,clean,Al,En.Di]) (tC (As Ab.E b) (As Ab.E c) a.Bu a.Bj _ (zK n b c a (C2 ((AV.B4 [Aa t.1,Aa t.2]))) (fun r e u m h=>by rw [e];exact h) h))
theorem Acx (n:Nat) (a:Int) {t:qT} (R:AV→Mem→Prop) (hR:∀r:qT,t=r→∀u m,C2 ((Aa r)) u m→R u m):Zi n a=some t→F25 a R:=by
 unfold Zi F25
 exact C9 hR rfl rfl
theorem Z7 {n:Nat} {a:Int} {t:qT} (h:Zi n a=some t):Dc pg KK.gl 25 [Aa a] ((Aa t)):=
 A1 (by first|rfl|simp [Av,clean,Al,En.Di]) (by first|rfl|simp [Av,clean,Al,En.Di]) (tN a _ (Acx n a (C2 ((Aa t))) (fun r e u m h=>by rw [e];exact h) h))
theorem Acm (n a:Nat) {t:s7} (R:AV→Mem→Prop) (hR:∀r:s7,t=r→∀u m,C2 ((Ah r)) u m→R u m):oQ n a=some t→F84 a R:=by
 unfold oQ F84
 refine Aax ?_
 exact C9 hR rfl rfl
theorem Abl {n:Nat} {a:Nat} {t:s7} (h:oQ n a=some t):Dc pg KK.gl 84 [Ci a] ((Ah t)):=
 A1 (by first|rfl|simp [Av,clean,Al,En.Di]) (by first|rfl|simp [Av,clean,Al,En.Di]) (vX a _ (Acm n a (C2 ((Ah t))) (fun r e u m h=>by rw [e];exact h) h))
theorem Aac (n a:Nat) {t:qL} (R:AV→Mem→Prop) (hR:∀r:qL,t=r→∀u m,C2 ((Ci r)) u m→R u m):g94 n a=some t→F94 a R:=by
 unfold g94 F94
 refine imp (E5 (Lf _)) ?_
 refine imp Dj ?_
 refine iq (AV.sc (.int .u64 (G3 .u64 (a:Int) (9223372036854775808)))) (Lj _ _) ?_
 refine imp Dj ?_
 refine imp (E5 (F2 _)) ?_
 refine imp D1 ?_
 exact C9 hR rfl rfl
theorem Afg {n:Nat} {a:Nat} {t:qL} (h:g94 n a=some t):Dc pg KK.gl 94 [Ci a] ((Ci t)):=
 A1 (by first|rfl|simp [Av,clean,Al,En.Di]) (by first|rfl|simp [Av,clean,Al,En.Di]) (rL a _ (Aac n a (C2 ((Ci t))) (fun r e u m h=>by rw [e];exact h) h))
end Go.Proofs.YtmhnnmfcjdnlhaaGreatDoor
