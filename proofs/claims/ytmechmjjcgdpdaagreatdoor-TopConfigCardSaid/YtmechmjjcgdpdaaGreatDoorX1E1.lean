/- A part. -/
import Derived.Test.YtmechmjjcgdpdaaGreatDoorX1G
import Derived.Test.YtmechmjjcgdpdaaGreatDoorX1F1
import Derived.Test.YtmechmjjcgdpdaaGreatDoorX1F2
import Derived.Test.YtmechmjjcgdpdaaGreatDoorX1F3
import Derived.Test.YtmechmjjcgdpdaaGreatDoorX1S
set_option linter.unusedVariables false
set_option linter.unusedSimpArgs false
set_option maxRecDepth 100000
set_option maxHeartbeats 4000000
namespace Go.Proofs.YtmechmjjcgdpdaaGreatDoor
theorem Akr {n id:Nat} {look:Nat→Option Bk} {L Y:List (Raw Ab.E)} {i j:Int} (hb:look id=B9 (Tf Ab.E) 37 L) (h:wJ 40 L i j=some Y):Gw pg KK.gl look n 49 [B3 (Tf Ab.E) id L,Aa i,Aa j] (bH (Tf Ab.E) n Y) [(n,some ⟨Az (Tf Ab.E) Y,37⟩),(id,none)]:=
 Ajd Tf.sc rfl hb h fun a b c d e f=>gU _ _ _ _ _ (by
  unfold xD
  exact p7 Bf Bf rfl rfl Bf rfl c d e f _ (fun _ _ h=>h) _ rfl _ rfl _ _ rfl rfl)
noncomputable def Apc (c:Int) (d:AV) (m:Mem) (R:AV→Mem→Prop) (e f:Int) (a:AV):Prop:=
Bg (Cv pg (.slice 49 (.tmp 0) (some (.tmp 1)) none none) 49 [a,AV.sc (.int .i64 f)] (Ao m) 102) fun g=>
Ia (Cv pg (.call ⟨.builtin .copy,#[.tmp 0,.tmp 1],#[49,48]⟩) 3 [g,d] (Ao m) 104) m fun h b=>
Af h fun l=>
Bg (Cv pg (.slice 49 (.tmp 0) (some (.tmp 1)) none none) 49 [a,AV.sc (.int .i64 c)] (Ao b) 107) fun i=>
Ep pg KK.gl b 109 276 [i,AV.sc (.int .i64 e)] fun j k=>
T7 j<|
A8 R k [some a]
noncomputable def Amb (d:AV) (a:Int) (f:AV) (m:Mem) (R:AV→Mem→Prop) (c g:Int):Prop:=
Bg (Cv pg (.call ⟨.builtin .cap,#[.tmp 0],#[49]⟩) 3 [d] (Ao m) 20) fun p=>
Af p fun q=>
bif (decide ((IntKind.wrap .i64 (g+c))>q)) then (
Bg (Cv pg (.slice 49 (.tmp 0) none (some (.tmp 1)) none) 49 [d,AV.sc (.int .i64 a)] (Ao m) 24) fun r=>
Ia (Cv pg (.call ⟨.builtin .append,#[.tmp 0,.tmp 1],#[49,3]⟩) 49 [r,AV.sc (.int .i64 (IntKind.wrap .i64 ((IntKind.wrap .i64 (g+c))-a)))] (Ao m) 30) m fun e i=>
Bg (Cv pg (.slice 49 (.tmp 0) (some (.tmp 1)) none none) 49 [e,AV.sc (.int .i64 a)] (Ao i) 34) fun s=>
Ia (Cv pg (.call ⟨.builtin .copy,#[.tmp 0,.tmp 1],#[49,48]⟩) 3 [s,f] (Ao i) 36) i fun t h=>
Af t fun ai=>
Gb (Cv pg (.slice 49 (.tmp 0) (some (.tmp 1)) none none) 49 [e,AV.sc (.int .i64 (IntKind.wrap .i64 (a+c)))] (Cf h (A3 e++(A3 (AV.sc (.int .i64 (IntKind.wrap .i64 (a+c))))++([])))) 41) fun j d13=>
Gb (Cv pg (.slice 49 (.tmp 0) (some (.tmp 1)) none none) 49 [d,AV.sc (.int .i64 a)] (Cf (Ac h d13) (A3 d++(A3 (AV.sc (.int .i64 a))++([])))) 44) fun k d14=>
Gb (Cv pg (.call ⟨.builtin .copy,#[.tmp 0,.tmp 1],#[49,49]⟩) 3 [j,k] (Cf (Ac (Ac h d13) d14) (A3 j++(A3 k++([])))) 45) fun u d15=>
Af u fun aj=>
Hv (D5 [0,0,0,6,15,0,0,96,255] [⟨[],[]⟩,⟨[],[]⟩,⟨[],[]⟩,⟨[],[]⟩,⟨d13,A3 e++(A3 (AV.sc (.int .i64 (IntKind.wrap .i64 (a+c))))++([]))⟩,⟨[],[]⟩,⟨[],[]⟩,⟨d14,A3 d++(A3 (AV.sc (.int .i64 a))++([]))⟩,⟨d15,A3 j++(A3 k++([]))⟩]) (A8 R (Ac (Ac (Ac h d13) d14) d15) [some e])) else (
Bg (Cv pg (.slice 49 (.tmp 0) none (some (.tmp 1)) none) 49 [d,AV.sc (.int .i64 (IntKind.wrap .i64 (g+c)))] (Ao m) 26) fun b=>
Bg (Cv pg (.slice 49 (.tmp 0) (some (.tmp 1)) none none) 49 [b,AV.sc (.int .i64 (IntKind.wrap .i64 (a+c)))] (Ao m) 33) fun v=>
Bj pg KK.gl m 275 [f,v] fun w=>
Iv w fun x=>
bif (!x) then (
Gb (Cv pg (.slice 49 (.tmp 0) (some (.tmp 1)) none none) 49 [b,AV.sc (.int .i64 (IntKind.wrap .i64 (a+c)))] (Cf m (A3 b++(A3 (AV.sc (.int .i64 (IntKind.wrap .i64 (a+c))))++([])))) 103) fun l d21=>
Gb (Cv pg (.slice 49 (.tmp 0) (some (.tmp 1)) none none) 49 [b,AV.sc (.int .i64 a)] (Cf (Ac m d21) (A3 b++(A3 (AV.sc (.int .i64 a))++([])))) 106) fun n d22=>
Gb (Cv pg (.call ⟨.builtin .copy,#[.tmp 0,.tmp 1],#[49,49]⟩) 3 [l,n] (Cf (Ac (Ac m d21) d22) (A3 l++(A3 n++([])))) 107) fun y d23=>
Af y fun ak=>
Hv (D5 [0,0,0,6,15,0,0,96,255] [⟨[],[]⟩,⟨[],[]⟩,⟨[],[]⟩,⟨[],[]⟩,⟨d21,A3 b++(A3 (AV.sc (.int .i64 (IntKind.wrap .i64 (a+c))))++([]))⟩,⟨[],[]⟩,⟨[],[]⟩,⟨d22,A3 b++(A3 (AV.sc (.int .i64 a))++([]))⟩,⟨d23,A3 l++(A3 n++([]))⟩]) (Bg (Cv pg (.slice 49 (.tmp 0) (some (.tmp 1)) none none) 49 [b,AV.sc (.int .i64 a)] (Ao (Ac (Ac (Ac m d21) d22) d23)) 110) fun z=>
Ia (Cv pg (.call ⟨.builtin .copy,#[.tmp 0,.tmp 1],#[49,48]⟩) 3 [z,f] (Ao (Ac (Ac (Ac m d21) d22) d23)) 112) (Ac (Ac (Ac m d21) d22) d23) fun aa ab=>
Af aa fun am=>
A8 R ab [some b])) else (
Bg (Cv pg (.slice 49 (.tmp 0) (some (.tmp 1)) none none) 49 [b,AV.sc (.int .i64 g)] (Ao m) 101) fun ad=>
Ia (Cv pg (.call ⟨.builtin .copy,#[.tmp 0,.tmp 1],#[49,48]⟩) 3 [ad,f] (Ao m) 103) m fun ae o=>
Af ae fun an=>
Bg (Cv pg (.slice 49 (.tmp 0) (some (.tmp 1)) none none) 49 [b,AV.sc (.int .i64 a)] (Ao o) 106) fun af=>
Ep pg KK.gl o 108 276 [af,AV.sc (.int .i64 c)] fun ag ah=>
T7 ag<|
A8 R ah [some b]))
theorem Adk (c:AV) (a:Int) (b:AV) (m:Mem) (R:AV→Mem→Prop):iC pg KK.gl 49 3 55 6 48 275 [AV.sc (.int .i64 (0)),AV.sc (.int .i64 (0)),AV.sc (.int .i64 (0)),AV.sc (.int .i64 (0)),AV.sc (.int .i64 (0)),AV.sc (.int .i64 (0))] (Apc a b m R) c a b m R=bF c a b m R:=by kernel_rfl
theorem Aaz (a:AV) (b:Int) (c:AV) (m:Mem) (R:AV→Mem→Prop):Ym pg 49 55 6 48 [AV.sc (.int .i64 (0)),AV.sc (.int .i64 (0)),AV.sc (.int .i64 (0)),AV.sc (.int .i64 (0)),AV.sc (.int .i64 (0)),AV.sc (.int .i64 (0))] (Amb a b c m R) a b c m R=bV a b c m R:=by kernel_rfl
theorem Aca:kL pg 275 48 4:=⟨⟨Tryz.f275,Tryz.func275,by kernel_rfl,by kernel_rfl,by kernel_rfl,by kernel_rfl⟩,⟨55,_,by kernel_rfl,C5 (n:=(Df pg 55).getD 0) Bf⟩⟩
theorem Acx {l xs:List Ad} {C k:Nat} (hC:l.length≤C) (hCm:C≤maxLen) (hne:l≠[]) (hx:xs≠[]) (hk:k≤l.length) (d:(l.length+xs.length)*48≤140737488355328) (g:l.length+xs.length≤4611686018427387904) (a:AV) (ha0:a=.sl 0 0 Ad.E.size l.length C true) (b:Int) (ha1:b=(k:Int)) (c:AV) (ha2:c=.sl 1 0 Ad.E.size xs.length xs.length false) (m:Mem) (hm:m=[(0,some ⟨Az Ad.E l++List.replicate ((C-l.length)*Ad.E.size) .El,55⟩),(1,some ⟨Az Ad.E xs,55⟩)]):bF a b c m (Tg Ad.E 55 (l.take k++xs++l.drop k)):=by
 rw [← Adk]
 exact sU (P:=pg) (gl:=KK.gl) (E:=Ad.E) (t:=49) (e:=55) (sz:=6) (by_:=48) (fo:=275) (ty2:=55) (i:=k) (zs:=[AV.sc (.int .i64 (0)),AV.sc (.int .i64 (0)),AV.sc (.int .i64 (0)),AV.sc (.int .i64 (0)),AV.sc (.int .i64 (0)),AV.sc (.int .i64 (0))]) (l:=l) (xs:=xs) (C:=C) (f:=0) (nt:=0) (kk:=.i64) Bf Bf Bf Bf rfl rfl Bf Aca hC hCm hne hx hk d g (Tg Ad.E 55 (l.take k++xs++l.drop k)) (fun _ _ h=>h) m hm a ha0 b ha1 c ha2 _
theorem Acw {xs:List Ad} (hx:xs≠[]) (d:(0+xs.length)*48≤140737488355328) (e:0+xs.length≤4611686018427387904) (a:AV) (ha0:a=.Dh 0 [] true) (b:Int) (ha1:b=0) (c:AV) (ha2:c=.sl 0 0 Ad.E.size xs.length xs.length false) (m:Mem) (hm:m=[(0,some ⟨Az Ad.E xs,55⟩)]):bV a b c m (Tg Ad.E 55 xs):=by
 rw [← Aaz]
 exact Wc Bf Bf rfl rfl hx d e _ (fun _ _ h=>h) m hm a ha0 b ha1 c ha2 _
theorem Aij {n id wid:Nat} {look:Nat→Option Bk} {l0 l xs0 xs y:List Ad} {i:Int} (hl:l0.length=l.length) (hb:look id=B9 Ad.E 55 l) (hl2:xs0.length=xs.length) (hb2:look wid=some ⟨Az Ad.E xs,55⟩) (hid:id≠wid) (h:Aei 48 l i xs=some y):Gw pg KK.gl look n 219 [B3 Ad.E id l0,Aa i,Eu Ad.E wid xs0] (B3 Ad.E n y) [(n,B9 Ad.E 55 y),(wid,none),(id,none)]:=
 Alf (fun _=>rfl) hl hb hl2 hb2 hid h (fun C k hC hCm hne hx hk a b=>dD _ _ _ _ _ (Acx hC hCm hne hx hk a b _ rfl _ rfl _ rfl _ rfl)) (fun hx a b=>cA _ _ _ _ _ (Acw hx a b _ rfl _ rfl _ rfl _ rfl))
theorem wN (n:Nat) (a:Bool) (b:List UInt8) (Jl c:Int) {t:(Int)⊕aM} (R:AV→Mem→Prop) (N0:St→Prop) (hR:∀r:aM,t=(.inr r)→∀u m,B5 ((Ae r)) u m→R u m) (hN0:∀y:Int,t=(.inl y)→∀s':St,Bb KK 41 0 s' (W8 a (Ai H9 b) Jl y [])→N0 s'):I1 n a b Jl c=some t→mO a (Ai H9 b) Jl c [] R N0:=by
 unfold I1 mO
 refine As (fun _=> ?_) (fun _=> ?_)
 ·refine Aq fun d e=> ?_
  refine iq (AV.B6 [AV.sc (.int .u8 (d.toNat:Int))] 0) (Bo (E:=H9) rfl e) ?_
  refine iq (AV.sc (.int .u8 (d.toNat:Int))) rfl ?_
  refine imp Acf ?_
  refine As (fun _=> ?_) (fun _=> ?_)
  ·refine As (fun _=> ?_) (fun _=> ?_)
   ·exact fun hg=>hN0 _ (Option.some.inj hg).symm _ (Ax [] rfl rfl rfl (oR (Ah (An (E:=H9) _ false) (oR (oR A2)))) Ay)
   ·refine As (fun _=> ?_) (fun _=> ?_)
    ·refine As (fun _=> ?_) (fun _=> ?_)
     ·refine As (fun _=> ?_) (fun _=> ?_)
      ·exact Ct hR rfl rfl
      ·exact fun hg=>hN0 _ (Option.some.inj hg).symm _ (Ax [] rfl rfl rfl (oR (Ah (An (E:=H9) _ false) (oR (oR A2)))) Ay)
     ·exact Ct hR rfl rfl
    ·exact Ct hR rfl rfl
  ·refine As (fun _=> ?_) (fun _=> ?_)
   ·refine As (fun _=> ?_) (fun _=> ?_)
    ·refine As (fun _=> ?_) (fun _=> ?_)
     ·exact Ct hR rfl rfl
     ·exact fun hg=>hN0 _ (Option.some.inj hg).symm _ (Ax [] rfl rfl rfl (oR (Ah (An (E:=H9) _ false) (oR (oR A2)))) Ay)
    ·exact Ct hR rfl rfl
   ·exact Ct hR rfl rfl
 ·exact Ct hR rfl rfl
theorem vD (n:Nat) (a:Bool) (b:List UInt8) (Jl:Int) {t:aM} (R:AV→Mem→Prop) (hR:∀r:aM,t=r→∀u m,B5 ((Ae r)) u m→R u m) (k:Nat) (x:Int) (hx:A7 (fun y:Int=>I1 n a b Jl y) k x=some t) {s:St} (hw:Bb KK 41 0 s (W8 a (Ai H9 b) Jl x [])):Bu pg KK 41 0 (.loop oK) s (kW R):=
 Ani R (σ:=Nat×(Int)) (fun z=>A7 (fun y:Int=>I1 n a b Jl y) z.1 z.2=some t) (fun z=>a) (fun z=>(Ai H9 b)) (fun z=>Jl) (fun z=>z.2) (fun z=>[]) (fun z=>z.1) (by
  rintro ⟨k,y⟩ h
  cases k with
  |zero=>exact (Bi h).elim
  |succ k=>
   obtain ⟨u,c,d,f⟩:=Bh h
   exact wN n a b Jl y R _ (fun r e=>hR r (f _ e).symm) (fun y' e s' hw=>⟨(k,y'),d _ e,Nat.lt_succ_self k,hw⟩) c) (k,x) hx hw
theorem Ai6 (n:Nat) (a:ByteArray) {t:aM} (R:AV→Mem→Prop) (hR:∀r:aM,t=r→∀u m,B5 ((Ae r)) u m→R u m):j7 n a=some t→F43 a R:=by
 unfold j7 F43
 refine iq (Aa (a.size:Int)) Bf ?_
 refine imp Ag ?_
 refine As (fun _=> ?_) (fun _=> ?_)
 ·exact Ct hR rfl rfl
 ·refine iq (Aa (a.size:Int)) Bf ?_
  refine imp Ag ?_
  refine As (fun _=> ?_) (fun _=> ?_)
  ·exact Ct hR rfl rfl
  ·refine Aq fun c b=> ?_
   refine iq (Ai H9 (a.data.toList)) (tP (e:=5) Bf Bf Bf b) ?_
   refine iq (Aa ((a.data.toList).length:Int)) rfl ?_
   refine imp Ag ?_
   exact fun hg=>vD n false (a.data.toList) ((a.data.toList).length:Int) R hR n _ hg (Ax [] rfl rfl rfl (oR (Ah (An (E:=H9) _ false) (oR (oR A2)))) Ay)
theorem vH {n:Nat} {a:ByteArray} {t:aM} (h:j7 n a=some t):Cj pg KK.gl 43 [Bq a] ((Ae t)):=
 A1 (by first|rfl|simp [Ap,clean,Aj,En.Cs]) (by first|rfl|simp [Ap,clean,Aj,En.Cs]) (Ady a _ (Ai6 n a (B5 ((Ae t))) (fun r e u m h=>by rw [e];exact h) h))
theorem uK (n:Nat) (a:List ByteArray) (b:ByteArray) (c c7 d:Int) {t:(Int)⊕Y2} (R:AV→Mem→Prop) (N0:St→Prop) (hR:∀r:Y2,t=(.inr r)→∀u m,B5 ((Aa r)) u m→R u m) (hN0:∀y:Int,t=(.inl y)→∀s':St,Bb KK 19 0 s' (Yb (Ai Aw a) b c c7 y [])→N0 s'):J4 n a b c c7 d=some t→mB (Ai Aw a) b c c7 d [] R N0:=by
 unfold J4 mB
 refine As (fun _=> ?_) (fun _=> ?_)
 ·refine Aq fun e f=> ?_
  refine iq (AV.B6 [Bq e] 0) (Bo (E:=Aw) rfl f) ?_
  refine iq (Bq e) rfl ?_
  refine imp C1 ?_
  refine As (fun _=> ?_) (fun _=> ?_)
  ·exact Ct hR rfl rfl
  ·exact fun hg=>hN0 _ (Option.some.inj hg).symm _ (Ax [] rfl rfl rfl (Ah (An (E:=Aw) _ false) (oR (oR (oR (oR A2))))) Ay)
 ·exact Ct hR rfl rfl
theorem x9 (n:Nat) (a:List ByteArray) (b:ByteArray) (c c7:Int) {t:Y2} (R:AV→Mem→Prop) (hR:∀r:Y2,t=r→∀u m,B5 ((Aa r)) u m→R u m) (k:Nat) (x:Int) (hx:A7 (fun y:Int=>J4 n a b c c7 y) k x=some t) {s:St} (hw:Bb KK 19 0 s (Yb (Ai Aw a) b c c7 x [])):Bu pg KK 19 0 (.loop l8) s (kP R):=
 Als R (σ:=Nat×(Int)) (fun z=>A7 (fun y:Int=>J4 n a b c c7 y) z.1 z.2=some t) (fun z=>(Ai Aw a)) (fun z=>b) (fun z=>c) (fun z=>c7) (fun z=>z.2) (fun z=>[]) (fun z=>z.1) (by
  rintro ⟨k,y⟩ h
  cases k with
  |zero=>exact (Bi h).elim
  |succ k=>
   obtain ⟨u,d,f,g⟩:=Bh h
   exact uK n a b c c7 y R _ (fun r e=>hR r (g _ e).symm) (fun y' e s' hw=>⟨(k,y'),f _ e,Nat.lt_succ_self k,hw⟩) d) (k,x) hx hw
theorem Alh (n:Nat) (a:List ByteArray) (b:ByteArray) {t:Y2} (R:AV→Mem→Prop) (hR:∀r:Y2,t=r→∀u m,B5 ((Aa r)) u m→R u m):g11 n a b=some t→F11 (Ai Aw a) b R:=by
 unfold g11 F11
 refine iq (Aa (a.length:Int)) rfl ?_
 refine imp Ag ?_
 exact fun hg=>x9 n a b (0) (a.length:Int) R hR n _ hg (Ax [] rfl rfl rfl (Ah (An (E:=Aw) _ false) (oR (oR (oR (oR A2))))) Ay)
theorem Alk {n:Nat} {a:List ByteArray} {b:ByteArray} {t:Y2} (h:g11 n a b=some t):Cj pg KK.gl 11 [Ai Aw a,Bq b] ((Aa t)):=
 A1 (by first|rfl|simp [Ap,clean,Aj,En.Cs]) (by first|rfl|simp [Ap,clean,Aj,En.Cs]) (Abk (Ai Aw a) b _ (Alh n a b (B5 ((Aa t))) (fun r e u m h=>by rw [e];exact h) h))
theorem Aiq (n:Nat) (a:List ByteArray) (b:ByteArray) {t:Ac5} (R:AV→Mem→Prop) (hR:∀r:Ac5,t=r→∀u m,B5 ((Ae r)) u m→R u m):g44 n a b=some t→F44 (Ai Aw a) b R:=by
 unfold g44 F44
 refine Aq fun d c=> ?_
 refine imp (Av (Alk c)) ?_
 refine imp Ag ?_
 exact Ct hR rfl rfl
theorem Anv {n:Nat} {a:List ByteArray} {b:ByteArray} {t:Ac5} (h:g44 n a b=some t):Cj pg KK.gl 44 [Ai Aw a,Bq b] ((Ae t)):=
 A1 (by first|rfl|simp [Ap,clean,Aj,En.Cs]) (by first|rfl|simp [Ap,clean,Aj,En.Cs]) (Aen (Ai Aw a) b _ (Aiq n a b (B5 ((Ae t))) (fun r e u m h=>by rw [e];exact h) h))
theorem jM (n:Nat) (c:List Ab) (e Hu f:Int) (Nk:List ByteArray) (Tj:Int) (d:ByteArray) (g:Int) (a:List ByteArray) {t:(Int×List ByteArray)⊕((Int×List ByteArray)⊕Qs)} (R:AV→Mem→Prop) (N0 N1:St→Prop) (hR:∀r:Qs,t=(.inr (.inr r))→∀u m,B5 ((Aa r)) u m→R u m) (hN0:∀y:Int×List ByteArray,t=(.inr (.inl y))→∀s':St,Bb KK 82 0 s' (S3 (Ai Ab.E c) e (B3 Aw 90000 y.2) (Ai Ab.E c) Hu y.1 [(90000,B9 Aw 9 y.2)])→N0 s') (hN1:∀y:Int×List ByteArray,t=(.inl y)→∀s':St,Bb KK 82 0 s' (M6 (Ai Ab.E c) e (B3 Aw 90000 y.2) (Ai Ab.E c) Hu f (Ai Aw Nk) Tj y.1 d (Ai Aw Nk) [(90000,B9 Aw 9 y.2)])→N1 s'):D2 n c e Hu f Nk Tj d g a=some t→Tq (Ai Ab.E c) e (B3 Aw 90000 a) (Ai Ab.E c) Hu f (Ai Aw Nk) Tj g d (Ai Aw Nk) [(90000,B9 Aw 9 a)] R N0 N1:=by
 unfold D2 Tq
 refine As (fun _=> ?_) (fun _=> ?_)
 ·refine Aq fun b i=> ?_
  refine iq (AV.B6 [Bq b] 0) (Bo (E:=Aw) rfl i) ?_
  refine iq (Bq b) rfl ?_
  refine imp C1 ?_
  refine Aq fun q j=> ?_
  refine imp (Av (vH j)) ?_
  refine imp Dn ?_
  refine As (fun _=> ?_) (fun _=> ?_)
  ·exact Ct hR rfl rfl
  ·refine Aq fun s k=> ?_
   refine imp (E3 (E9 (Ca (Yo (E:=Aw) (ty:=9) (l':=a) _ Aw.nf rfl B8) (Ca (Li _ _) D1)) (Anv k) rfl)) ?_
   refine imp Dn ?_
   refine As (fun _=> ?_) (fun _=> ?_)
   ·exact Ct hR rfl rfl
   ·refine As (fun _=> ?_) (fun _=> ?_)
    ·refine Aq fun h l=> ?_
     refine iq (AV.B6 [Bq h] 0) (Bo (E:=Aw) rfl l) ?_
     refine iq (Bq h) rfl ?_
     refine imp C1 ?_
     refine As (fun _=> ?_) (fun _=> ?_)
     ·exact Ct hR rfl rfl
     ·refine imp (Ds (show _=some ((Aa (a.length:Int)),[]) from Qx)) ?_
      refine imp Ag ?_
      refine As (fun _=> ?_) (fun _=> ?_)
      ·exact Ct hR rfl rfl
      ·refine imp (Dm (show _=some ((Eu Aw 200160 ([b]:List ByteArray)),[(200160,some ⟨Az Aw ([b]:List ByteArray),9⟩)]) from rfl)) ?_
       refine Aq fun v o=> ?_
       refine imp (Dm (show _=some ((B3 Aw 200161 (a++([b]:List ByteArray))),(Jj Aw 200161 90000 9 a ([b]:List ByteArray))) from (Ie (E:=Aw) (l':=a) (xs:=([b]:List ByteArray)) rfl rfl (Fq (E:=Aw) (ty:=9) rfl rfl B8) asE rfl (fun hne=>Eq.trans B8 (C7 hne)) o))) ?_
       exact fun hg=>hN1 _ (Option.some.inj hg).symm _ (Ax [(90000,200161),(100004,100004)] rfl rfl rfl (Ah (An (E:=Ab.E) _ false) (oR (Ah (Cl (E:=Aw) (id:=200161) (l':=(a++([b]:List ByteArray))) rfl rfl) (oR (Ah (An (E:=Ab.E) _ false) (oR (oR (Ah (An (E:=Aw) _ false) (oR (oR A2)))))))))) (A0 (Ba (cs:=[Bq d,Ai Aw Nk]) (ty:=37) (by simp [clean,Ap,Aj]) (show Ao _ 100004=_ from B8)) (A0 (Cg (E:=Aw) (ty:=9) (l':=(a++([b]:List ByteArray))) rfl (show Ao _ 200161=_ from B8)) Ay)))
    ·refine imp (Ds (show _=some ((Aa (a.length:Int)),[]) from Qx)) ?_
     refine imp Ag ?_
     refine As (fun _=> ?_) (fun _=> ?_)
     ·exact Ct hR rfl rfl
     ·refine imp (Dm (show _=some ((Eu Aw 200152 ([b]:List ByteArray)),[(200152,some ⟨Az Aw ([b]:List ByteArray),9⟩)]) from rfl)) ?_
      refine Aq fun w p=> ?_
      refine imp (Dm (show _=some ((B3 Aw 200153 (a++([b]:List ByteArray))),(Jj Aw 200153 90000 9 a ([b]:List ByteArray))) from (Ie (E:=Aw) (l':=a) (xs:=([b]:List ByteArray)) rfl rfl (Fq (E:=Aw) (ty:=9) rfl rfl B8) asE rfl (fun hne=>Eq.trans B8 (C7 hne)) p))) ?_
      exact fun hg=>hN1 _ (Option.some.inj hg).symm _ (Ax [(90000,200153),(100004,100004)] rfl rfl rfl (Ah (An (E:=Ab.E) _ false) (oR (Ah (Cl (E:=Aw) (id:=200153) (l':=(a++([b]:List ByteArray))) rfl rfl) (oR (Ah (An (E:=Ab.E) _ false) (oR (oR (Ah (An (E:=Aw) _ false) (oR (oR A2)))))))))) (A0 (Ba (cs:=[Bq d,Ai Aw Nk]) (ty:=37) (by simp [clean,Ap,Aj]) (show Ao _ 100004=_ from B8)) (A0 (Cg (E:=Aw) (ty:=9) (l':=(a++([b]:List ByteArray))) rfl (show Ao _ 200153=_ from B8)) Ay)))
 ·exact fun hg=>hN0 _ (Option.some.inj hg).symm _ (Ax [(90000,90000)] rfl rfl rfl (Ah (An (E:=Ab.E) _ false) (oR (Ah (Cl (E:=Aw) (id:=90000) (l':=a) rfl rfl) (Ah (An (E:=Ab.E) _ false) (oR (oR A2)))))) (A0 (Cg (E:=Aw) (ty:=9) (l':=a) rfl (show Ao _ 90000=_ from B8)) Ay))
theorem Ub (n:Nat) (a:List Ab) (b Hu c:Int) (Nk:List ByteArray) (Tj:Int) (d:ByteArray) {t:((Int×List ByteArray)⊕Qs)} (R:AV→Mem→Prop) (N0:St→Prop) (hR:∀r:Qs,t=(.inr r)→∀u m,B5 ((Aa r)) u m→R u m) (hN0:∀y:Int×List ByteArray,t=(.inl y)→∀s':St,Bb KK 82 0 s' (S3 (Ai Ab.E a) b (B3 Aw 90000 y.2) (Ai Ab.E a) Hu y.1 [(90000,B9 Aw 9 y.2)])→N0 s') (k:Nat) (x:Int×List ByteArray) (hx:A7 (fun y:Int×List ByteArray=>D2 n a b Hu c Nk Tj d y.1 y.2) k x=some t) {s:St} (hw:Bb KK 82 0 s (M6 (Ai Ab.E a) b (B3 Aw 90000 x.2) (Ai Ab.E a) Hu c (Ai Aw Nk) Tj x.1 d (Ai Aw Nk) [(90000,B9 Aw 9 x.2)])):Bu pg KK 82 0 (.loop Ps) s (Qq R N0):=
 Ado R N0 (σ:=Nat×(Int×List ByteArray)) (fun z=>A7 (fun y:Int×List ByteArray=>D2 n a b Hu c Nk Tj d y.1 y.2) z.1 z.2=some t) (fun z=>(Ai Ab.E a)) (fun z=>b) (fun z=>(B3 Aw 90000 z.2.2)) (fun z=>(Ai Ab.E a)) (fun z=>Hu) (fun z=>c) (fun z=>(Ai Aw Nk)) (fun z=>Tj) (fun z=>z.2.1) (fun z=>d) (fun z=>(Ai Aw Nk)) (fun z=>[(90000,B9 Aw 9 z.2.2)]) (fun z=>z.1) (by
  rintro ⟨k,y⟩ h
  cases k with
  |zero=>exact (Bi h).elim
  |succ k=>
   obtain ⟨u,g,i,f⟩:=Bh h
   exact jM n a b Hu c Nk Tj d y.1 y.2 R N0 _ (fun r e=>hR r (f _ e).symm) (fun y' e=>hN0 y' (f _ e).symm) (fun y' e s' hw=>⟨(k,y'),i _ e,Nat.lt_succ_self k,hw⟩) g) (k,x) hx hw
theorem u5 (n:Nat) (b:List Ab) (d Hu f:Int) (c:List ByteArray) {t:(Int×List ByteArray)⊕Qs} (R:AV→Mem→Prop) (N0:St→Prop) (hR:∀r:Qs,t=(.inr r)→∀u m,B5 ((Aa r)) u m→R u m) (hN0:∀y:Int×List ByteArray,t=(.inl y)→∀s':St,Bb KK 82 0 s' (S3 (Ai Ab.E b) d (B3 Aw 90000 y.2) (Ai Ab.E b) Hu y.1 [(90000,B9 Aw 9 y.2)])→N0 s'):I9 n b d Hu f c=some t→lO (Ai Ab.E b) d (B3 Aw 90000 c) (Ai Ab.E b) Hu f [(90000,B9 Aw 9 c)] R N0:=by
 unfold I9 lO
 refine As (fun _=> ?_) (fun _=> ?_)
 ·refine Aq fun a g=> ?_
  refine iq (AV.B6 [Bq a.Position,Ai Aw a.Ak] 0) (Bo (E:=Ab.E) rfl g) ?_
  refine iq (AV.agg [Bq a.Position,Ai Aw a.Ak]) rfl ?_
  refine imp Bw ?_
  refine imp C1 ?_
  refine imp (Dd rfl) ?_
  refine Aq fun j h=> ?_
  refine imp (Av (vH h)) ?_
  refine imp Dn ?_
  refine As (fun _=> ?_) (fun _=> ?_)
  ·exact Ct hR rfl rfl
  ·refine As (fun _=> ?_) (fun _=> ?_)
   ·refine Aq fun e i=> ?_
    refine iq (AV.B6 [Bq e.Position,Ai Aw e.Ak] 0) (Bo (E:=Ab.E) rfl i) ?_
    refine iq (AV.B6 [Bq e.Position,Ai Aw e.Ak] 0) rfl ?_
    refine iq (Bq e.Position) rfl ?_
    refine imp C1 ?_
    refine As (fun _=> ?_) (fun _=> ?_)
    ·exact Ct hR rfl rfl
    ·refine iq (Aa (a.Ak.length:Int)) rfl ?_
     refine imp Ag ?_
     refine As (fun _=> ?_) (fun _=> ?_)
     ·exact Ct hR rfl rfl
     ·refine iq (Aa (a.Ak.length:Int)) rfl ?_
      refine imp Ag ?_
      exact fun hg=>Ub n b d Hu f a.Ak (a.Ak.length:Int) a.Position R N0 hR hN0 n _ hg (Ax [(90000,90000),(100004,100004)] rfl rfl rfl (Ah (An (E:=Ab.E) _ false) (oR (Ah (Cl (E:=Aw) (id:=90000) (l':=c) rfl rfl) (oR (Ah (An (E:=Ab.E) _ false) (oR (oR (Ah (An (E:=Aw) _ false) (oR (oR A2)))))))))) (A0 (Ba (cs:=[Bq a.Position,Ai Aw a.Ak]) (ty:=37) (by simp [clean,Ap,Aj]) (show Ao _ 100004=_ from B8)) (A0 (Cg (E:=Aw) (ty:=9) (l':=c) rfl (show Ao _ 90000=_ from B8)) Ay)))
   ·refine iq (Aa (a.Ak.length:Int)) rfl ?_
    refine imp Ag ?_
    refine As (fun _=> ?_) (fun _=> ?_)
    ·exact Ct hR rfl rfl
    ·refine iq (Aa (a.Ak.length:Int)) rfl ?_
     refine imp Ag ?_
     exact fun hg=>Ub n b d Hu f a.Ak (a.Ak.length:Int) a.Position R N0 hR hN0 n _ hg (Ax [(90000,90000),(100004,100004)] rfl rfl rfl (Ah (An (E:=Ab.E) _ false) (oR (Ah (Cl (E:=Aw) (id:=90000) (l':=c) rfl rfl) (oR (Ah (An (E:=Ab.E) _ false) (oR (oR (Ah (An (E:=Aw) _ false) (oR (oR A2)))))))))) (A0 (Ba (cs:=[Bq a.Position,Ai Aw a.Ak]) (ty:=37) (by simp [clean,Ap,Aj]) (show Ao _ 100004=_ from B8)) (A0 (Cg (E:=Aw) (ty:=9) (l':=c) rfl (show Ao _ 90000=_ from B8)) Ay)))
 ·exact Ct hR rfl rfl
theorem vB (n:Nat) (a:List Ab) (b Hu:Int) {t:Qs} (R:AV→Mem→Prop) (hR:∀r:Qs,t=r→∀u m,B5 ((Aa r)) u m→R u m) (k:Nat) (x:Int×List ByteArray) (hx:A7 (fun y:Int×List ByteArray=>I9 n a b Hu y.1 y.2) k x=some t) {s:St} (hw:Bb KK 82 0 s (S3 (Ai Ab.E a) b (B3 Aw 90000 x.2) (Ai Ab.E a) Hu x.1 [(90000,B9 Aw 9 x.2)])):Bu pg KK 82 0 (.loop Xh) s (oE R):=
 Aln R (σ:=Nat×(Int×List ByteArray)) (fun z=>A7 (fun y:Int×List ByteArray=>I9 n a b Hu y.1 y.2) z.1 z.2=some t) (fun z=>(Ai Ab.E a)) (fun z=>b) (fun z=>(B3 Aw 90000 z.2.2)) (fun z=>(Ai Ab.E a)) (fun z=>Hu) (fun z=>z.2.1) (fun z=>[(90000,B9 Aw 9 z.2.2)]) (fun z=>z.1) (by
  rintro ⟨k,y⟩ h
  cases k with
  |zero=>exact (Bi h).elim
  |succ k=>
   obtain ⟨u,c,d,f⟩:=Bh h
   exact u5 n a b Hu y.1 y.2 R _ (fun r e=>hR r (f _ e).symm) (fun y' e s' hw=>⟨(k,y'),d _ e,Nat.lt_succ_self k,hw⟩) c) (k,x) hx hw
theorem Ajg (n:Nat) (a:List Ab) {t:Qs} (R:AV→Mem→Prop) (hR:∀r:Qs,t=r→∀u m,B5 ((Aa r)) u m→R u m):o7 n a=some t→F46 (Ai Ab.E a) R:=by
 unfold o7 F46
 refine iq (Aa (a.length:Int)) rfl ?_
 refine imp Ag ?_
 refine As (fun _=> ?_) (fun _=> ?_)
 ·exact Ct hR rfl rfl
 ·refine iq (Aa (a.length:Int)) rfl ?_
  refine imp Ag ?_
  exact fun hg=>vB n a (0) (a.length:Int) R hR n _ hg (Ax [(90000,89500)] rfl rfl rfl (Ah (An (E:=Ab.E) _ false) (oR (Ah Ft (Ah (An (E:=Ab.E) _ false) (oR (oR A2)))))) (A0 Mx Ay))
theorem Adt {n:Nat} {a:List Ab} {t:Qs} (h:o7 n a=some t):Cj pg KK.gl 46 [Ai Ab.E a] ((Aa t)):=
 A1 (by first|rfl|simp [Ap,clean,Aj,En.Cs]) (by first|rfl|simp [Ap,clean,Aj,En.Cs]) (Aeb (Ai Ab.E a) _ (Ajg n a (B5 ((Aa t))) (fun r e u m h=>by rw [e];exact h) h))
theorem Ags (n:Nat) (a:Ab) (b:ByteArray) {t:n9} (R:AV→Mem→Prop) (hR:∀r:n9,t=r→∀u m,B5 ((Ae r)) u m→R u m):wK n a b=some t→Acv a.Position (Ai Aw a.Ak) (AV.B6 [Bq b] 0) R:=by
 unfold wK Acv
 refine imp (Dd rfl) ?_
 refine iq (Bq b) rfl ?_
 refine imp C1 ?_
 exact Ct hR rfl rfl
theorem Amn {n:Nat} {a:Ab} {b:ByteArray} {t:n9} (h:wK n a b=some t):Cj pg KK.gl 125 [AV.agg [Bq a.Position,Ai Aw a.Ak],AV.B6 [Bq b] 0] ((Ae t)):=
 A1 (by first|rfl|simp [Ap,clean,Aj,En.Cs]) (by first|rfl|simp [Ap,clean,Aj,En.Cs]) (zD a.Position (Ai Aw a.Ak) (AV.B6 [Bq b] 0) _ (Ags n a b (B5 ((Ae t))) (fun r e u m h=>by rw [e];exact h) h))
theorem sO (n:Nat) (b:List Ab) (c:ByteArray) (d c7 e:Int) {t:(Int)⊕G3} (R:AV→Mem→Prop) (N0:St→Prop) (hR:∀r:G3,t=(.inr r)→∀u m,B5 ((Aa r)) u m→R u m) (hN0:∀y:Int,t=(.inl y)→∀s':St,Bb KK 19 0 s' (Lx (Ai Ab.E b) (AV.fn 125 [AV.B6 [Bq c] 0]) d c7 y [])→N0 s'):Lr n b c d c7 e=some t→Rr (Ai Ab.E b) (AV.fn 125 [AV.B6 [Bq c] 0]) d c7 e [] R N0:=by
 unfold Lr Rr
 refine As (fun _=> ?_) (fun _=> ?_)
 ·refine Aq fun a f=> ?_
  refine iq (AV.B6 [Bq a.Position,Ai Aw a.Ak] 0) (Bo (E:=Ab.E) rfl f) ?_
  refine iq (AV.agg [Bq a.Position,Ai Aw a.Ak]) rfl ?_
  refine imp Bw ?_
  refine imp C1 ?_
  refine Aq fun h g=> ?_
  refine imp Iy ?_
  refine imp (Q3 rfl) ?_
  refine imp (Gh (Amn g)) ?_
  refine imp Dn ?_
  refine As (fun _=> ?_) (fun _=> ?_)
  ·exact Ct hR rfl rfl
  ·exact fun hg=>hN0 _ (Option.some.inj hg).symm _ (Ax [] rfl rfl rfl (Ah (An (E:=Ab.E) _ false) (Ah (E0 (Fb _) (by simp [clean,Ap,Aj])) (oR (oR (oR A2))))) Ay)
 ·exact Ct hR rfl rfl
theorem tN (n:Nat) (a:List Ab) (b:ByteArray) (c c7:Int) {t:G3} (R:AV→Mem→Prop) (hR:∀r:G3,t=r→∀u m,B5 ((Aa r)) u m→R u m) (k:Nat) (x:Int) (hx:A7 (fun y:Int=>Lr n a b c c7 y) k x=some t) {s:St} (hw:Bb KK 19 0 s (Lx (Ai Ab.E a) (AV.fn 125 [AV.B6 [Bq b] 0]) c c7 x [])):Bu pg KK 19 0 (.loop Uu) s (Ul R):=
 zH R (σ:=Nat×(Int)) (fun z=>A7 (fun y:Int=>Lr n a b c c7 y) z.1 z.2=some t) (fun z=>(Ai Ab.E a)) (fun z=>(AV.fn 125 [AV.B6 [Bq b] 0])) (fun z=>c) (fun z=>c7) (fun z=>z.2) (fun z=>[]) (fun z=>z.1) (by
  rintro ⟨k,y⟩ h
  cases k with
  |zero=>exact (Bi h).elim
  |succ k=>
   obtain ⟨u,d,f,g⟩:=Bh h
   exact sO n a b c c7 y R _ (fun r e=>hR r (g _ e).symm) (fun y' e s' hw=>⟨(k,y'),f _ e,Nat.lt_succ_self k,hw⟩) d) (k,x) hx hw
theorem Ach (n:Nat) (a:List Ab) (b:ByteArray) {t:G3} (R:AV→Mem→Prop) (hR:∀r:G3,t=r→∀u m,B5 ((Aa r)) u m→R u m):pH n a b=some t→tT (Ai Ab.E a) (AV.fn 125 [AV.B6 [Bq b] 0]) R:=by
 unfold pH tT
 refine iq (Aa (a.length:Int)) rfl ?_
 refine imp Ag ?_
 exact fun hg=>tN n a b (0) (a.length:Int) R hR n _ hg (Ax [] rfl rfl rfl (Ah (An (E:=Ab.E) _ false) (Ah (E0 (Fb _) (by simp [clean,Ap,Aj])) (oR (oR (oR A2))))) Ay)
theorem Am3 {n:Nat} {a:List Ab} {b:ByteArray} {t:G3} (h:pH n a b=some t):Cj pg KK.gl 124 [Ai Ab.E a,AV.fn 125 [AV.B6 [Bq b] 0]] ((Aa t)):=
 A1 (by first|rfl|simp [Ap,clean,Aj,En.Cs]) (by first|rfl|simp [Ap,clean,Aj,En.Cs]) (gC (Ai Ab.E a) (AV.fn 125 [AV.B6 [Bq b] 0]) _ (Ach n a b (B5 ((Aa t))) (fun r e u m h=>by rw [e];exact h) h))
theorem Ajm (n:Nat) (b:List Ab) (a:ByteArray) {t:Acm} (R:AV→Mem→Prop) (hR:∀r:Acm,t=r→∀u m,B5 ((Aa r)) u m→R u m):g47 n b a=some t→F47 (Ai Ab.E b) a R:=by
 unfold g47 F47
 refine Aq fun d c=> ?_
 refine imp (E3 (E9 (Ca (Ob (E:=Ab.E) _ _ false) (Ca (mT _ _ (Ca (Ur _ (ty:=9) (us:=[Bq a]) B8 (Ca (Li _ _) D1)) D1)) D1)) (Am3 c) rfl)) ?_
 refine imp Ag ?_
 exact Ct hR rfl rfl
theorem Afs {n:Nat} {a:List Ab} {b:ByteArray} {t:Acm} (h:g47 n a b=some t):Cj pg KK.gl 47 [Ai Ab.E a,Bq b] ((Aa t)):=
 A1 (by first|rfl|simp [Ap,clean,Aj,En.Cs]) (by first|rfl|simp [Ap,clean,Aj,En.Cs]) (Aez (Ai Ab.E a) b _ (Ajm n a b (B5 ((Aa t))) (fun r e u m h=>by rw [e];exact h) h))
theorem Aak (n:Nat) (c3:Int) (c:List Ab) (d e:Int) (a:List ByteArray) {t:(Int×List ByteArray)⊕Zq} (R:AV→Mem→Prop) (N0:St→Prop) (hR:∀r:Zq,t=(.inr r)→∀u m,B5 ((AV.Bn [Ai Aw r.1,Aa r.2])) u m→R u m) (hN0:∀y:Int×List ByteArray,t=(.inl y)→∀s':St,Bb KK 27 0 s' (Wx AV.Bp c3 (B3 Aw 90000 y.2) (Ai Ab.E c) d y.1 [(90000,B9 Aw 9 y.2)])→N0 s'):Nq n c3 c d e a=some t→oJ AV.Bp c3 (B3 Aw 90000 a) (Ai Ab.E c) d e [(90000,B9 Aw 9 a)] R N0:=by
 unfold Nq oJ
 refine As (fun _=> ?_) (fun _=> ?_)
 ·refine Aq fun b f=> ?_
  refine iq (AV.B6 [Bq b.Position,Ai Aw b.Ak] 0) (Bo (E:=Ab.E) rfl f) ?_
  refine iq (AV.agg [Bq b.Position,Ai Aw b.Ak]) rfl ?_
  refine imp Bw ?_
  refine imp C1 ?_
  refine imp (Dd rfl) ?_
  refine Aq fun j g=> ?_
  have neh20:=cC g
  refine Aq fun k h=> ?_
  refine imp (Dm (show _=some ((B3 Aw 100008 (a++b.Ak)),(Jj Aw 100008 90000 9 a b.Ak)) from (Ie (E:=Aw) (l':=a) (xs:=b.Ak) rfl rfl (Sv (E:=Aw) rfl b.Ak false) asE rfl (fun hne=>Eq.trans B8 (C7 hne)) h))) ?_
  exact fun hg=>hN0 _ (Option.some.inj hg).symm _ (Ax [(90000,100008)] rfl rfl rfl (oR (oR (Ah (Cl (E:=Aw) (id:=100008) (l':=(a++b.Ak)) rfl rfl) (Ah (An (E:=Ab.E) _ false) (oR (oR A2)))))) (A0 (Cg (E:=Aw) (ty:=9) (l':=(a++b.Ak)) rfl (show Ao _ 100008=_ from B8)) Ay))
 ·refine Aq fun l i=> ?_
  have lh22:(Dr a).length=a.length:=Kg _
  refine imp (Nr Z9 lD dQ rfl B8 (Xc i)) ?_
  refine imp gP ?_
  exact fun hg=>D7 rfl (hR _ (Option.some.inj hg).symm) (Di (aX (E:=Aw) (ty:=9) (l':=(Dr a)) _ (by first|rfl|omega|(simp;done)|(simp;omega)) B8) (fS By))
theorem xY (n:Nat) (c3:Int) (a:List Ab) (b:Int) {t:Zq} (R:AV→Mem→Prop) (hR:∀r:Zq,t=r→∀u m,B5 ((AV.Bn [Ai Aw r.1,Aa r.2])) u m→R u m) (k:Nat) (x:Int×List ByteArray) (hx:A7 (fun y:Int×List ByteArray=>Nq n c3 a b y.1 y.2) k x=some t) {s:St} (hw:Bb KK 27 0 s (Wx AV.Bp c3 (B3 Aw 90000 x.2) (Ai Ab.E a) b x.1 [(90000,B9 Aw 9 x.2)])):Bu pg KK 27 0 (.loop n4) s (oF R):=
 Anm R (σ:=Nat×(Int×List ByteArray)) (fun z=>A7 (fun y:Int×List ByteArray=>Nq n c3 a b y.1 y.2) z.1 z.2=some t) (fun z=>AV.Bp) (fun z=>c3) (fun z=>(B3 Aw 90000 z.2.2)) (fun z=>(Ai Ab.E a)) (fun z=>b) (fun z=>z.2.1) (fun z=>[(90000,B9 Aw 9 z.2.2)]) (fun z=>z.1) (by
  rintro ⟨k,y⟩ h
  cases k with
  |zero=>exact (Bi h).elim
  |succ k=>
   obtain ⟨u,c,d,f⟩:=Bh h
   exact Aak n c3 a b y.1 y.2 R _ (fun r e=>hR r (f _ e).symm) (fun y' e s' hw=>⟨(k,y'),d _ e,Nat.lt_succ_self k,hw⟩) c) (k,x) hx hw
theorem Ajt (n:Nat) (a:List Ab) {t:Zq} (R:AV→Mem→Prop) (hR:∀r:Zq,t=r→∀u m,B5 ((AV.Bn [Ai Aw r.1,Aa r.2])) u m→R u m):g13 n a=some t→F13 (Ai Ab.E a) R:=by
 unfold g13 F13
 refine Aq fun c b=> ?_
 refine imp (Av (Adt b)) ?_
 refine imp Ag ?_
 refine As (fun _=> ?_) (fun _=> ?_)
 ·exact fun hg=>D7 rfl (hR _ (Option.some.inj hg).symm) (Di (Pj (E:=Aw) _) (fS By))
 ·refine iq (Aa (a.length:Int)) rfl ?_
  refine imp Ag ?_
  exact fun hg=>xY n (0) a (a.length:Int) R hR n _ hg (Ax [(90000,89500)] rfl rfl rfl (oR (oR (Ah Ft (Ah (An (E:=Ab.E) _ false) (oR (oR A2)))))) (A0 Mx Ay))
theorem Aou {n:Nat} {a:List Ab} {t:Zq} (h:g13 n a=some t):Cj pg KK.gl 13 [Ai Ab.E a] ((AV.Bn [Ai Aw t.1,Aa t.2])):=
 A1 (by first|rfl|simp [Ap,clean,Aj,En.Cs]) (by first|rfl|simp [Ap,clean,Aj,En.Cs]) (Abc (Ai Ab.E a) _ (Ajt n a (B5 ((AV.Bn [Ai Aw t.1,Aa t.2]))) (fun r e u m h=>by rw [e];exact h) h))
theorem Ab3 (n:Nat) (a:H6) {t:mK} (R:AV→Mem→Prop) (hR:∀r:mK,t=r→∀u m,B5 ((Aa r)) u m→R u m):Adp n a=some t→Acg a.C6 a.Cp R:=by
 unfold Adp Acg
 refine As (fun _=> ?_) (fun _=> ?_)
 ·exact Ct hR rfl rfl
 ·refine As (fun _=> ?_) (fun _=> ?_)
  ·exact Ct hR rfl rfl
  ·refine As (fun _=> ?_) (fun _=> ?_)
   ·exact Ct hR rfl rfl
   ·refine As (fun _=> ?_) (fun _=> ?_)
    ·exact Ct hR rfl rfl
    ·exact Ct hR rfl rfl
theorem Amj {n:Nat} {a:H6} {t:mK} (h:Adp n a=some t):Cj pg KK.gl 188 [AV.agg [Aa a.C6,Aa a.Cp]] ((Aa t)):=
 A1 (by first|rfl|simp [Ap,clean,Aj,En.Cs]) (by first|rfl|simp [Ap,clean,Aj,En.Cs]) (xZ a.C6 a.Cp _ (Ab3 n a (B5 ((Aa t))) (fun r e u m h=>by rw [e];exact h) h))
theorem Akw (n:Nat) (a:TP) {t:Ag1} (R:AV→Mem→Prop) (hR:∀r:Ag1,t=r→∀u m,B5 ((Aa r)) u m→R u m):iO n a=some t→F79 a.X a.Y R:=by
 unfold iO F79
 refine As (fun _=> ?_) (fun _=> ?_)
 ·exact Ct hR rfl rfl
 ·refine As (fun _=> ?_) (fun _=> ?_)
  ·exact Ct hR rfl rfl
  ·refine As (fun _=> ?_) (fun _=> ?_)
   ·exact Ct hR rfl rfl
   ·refine As (fun _=> ?_) (fun _=> ?_)
    ·exact Ct hR rfl rfl
    ·exact Ct hR rfl rfl
theorem j4 {n:Nat} {a:TP} {t:Ag1} (h:iO n a=some t):Cj pg KK.gl 79 [AV.agg [Aa a.X,Aa a.Y]] ((Aa t)):=
 A1 (by first|rfl|simp [Ap,clean,Aj,En.Cs]) (by first|rfl|simp [Ap,clean,Aj,En.Cs]) (Aeq a.X a.Y _ (Akw n a (B5 ((Aa t))) (fun r e u m h=>by rw [e];exact h) h))
theorem xV (n:Nat) (c:List Ad) (d Jl e:Int) {t:(Int)⊕aS} (R:AV→Mem→Prop) (N0:St→Prop) (hR:∀r:aS,t=(.inr r)→∀u m,B5 ((Aa r)) u m→R u m) (hN0:∀y:Int,t=(.inl y)→∀s':St,Bb KK 86 0 s' (Xo (Ai Ad.E c) d (Ai Ad.E c) Jl y [])→N0 s'):Nu n c d Jl e=some t→lE (Ai Ad.E c) d (Ai Ad.E c) Jl e [] R N0:=by
 unfold Nu lE
 refine As (fun _=> ?_) (fun _=> ?_)
 ·refine Aq fun b f=> ?_
  refine iq (AV.B6 [Aa b.Am,Aa b.A5,Aa b.A6,Aa b.Ar,Aa b.Bl,Aa b.Co] 0) (Bo (E:=Ad.E) rfl f) ?_
  refine iq (AV.agg [Aa b.Am,Aa b.A5,Aa b.A6,Aa b.Ar,Aa b.Bl,Aa b.Co]) rfl ?_
  refine imp Jc ?_
  iterate 6 refine imp Ag ?_
  refine As (fun _=> ?_) (fun _=> ?_)
  ·exact Ct hR rfl rfl
  ·refine As (fun _=> ?_) (fun _=> ?_)
   ·exact Ct hR rfl rfl
   ·refine As (fun _=> ?_) (fun _=> ?_)
    ·refine Aq fun a g=> ?_
     refine iq (AV.B6 [Aa a.Am,Aa a.A5,Aa a.A6,Aa a.Ar,Aa a.Bl,Aa a.Co] 0) (Bo (E:=Ad.E) rfl g) ?_
     refine iq (AV.B6 [Aa a.Am,Aa a.A5,Aa a.A6,Aa a.Ar,Aa a.Bl,Aa a.Co] 0) rfl ?_
     refine iq (AV.B6 [Aa a.Am,Aa a.A5,Aa a.A6,Aa a.Ar,Aa a.Bl,Aa a.Co] 0) rfl ?_
     refine iq (Aa a.Am) rfl ?_
     refine imp Ag ?_
     refine As (fun _=> ?_) (fun _=> ?_)
     ·exact Ct hR rfl rfl
     ·refine Aq fun j h=> ?_
      refine imp (Av (j4 h)) ?_
      refine imp Ag ?_
      refine As (fun _=> ?_) (fun _=> ?_)
      ·exact Ct hR rfl rfl
      ·refine As (fun _=> ?_) (fun _=> ?_)
       ·exact Ct hR rfl rfl
       ·refine As (fun _=> ?_) (fun _=> ?_)
        ·exact Ct hR rfl rfl
        ·refine As (fun _=> ?_) (fun _=> ?_)
         ·exact Ct hR rfl rfl
         ·refine As (fun _=> ?_) (fun _=> ?_)
          ·exact Ct hR rfl rfl
          ·refine As (fun _=> ?_) (fun _=> ?_)
           ·exact Ct hR rfl rfl
           ·refine As (fun _=> ?_) (fun _=> ?_)
            ·exact Ct hR rfl rfl
            ·exact fun hg=>hN0 _ (Option.some.inj hg).symm _ (Ax [] rfl rfl rfl (Ah (An (E:=Ad.E) _ false) (oR (Ah (An (E:=Ad.E) _ false) (oR (oR A2))))) Ay)
    ·refine Aq fun k i=> ?_
     refine imp (Av (j4 i)) ?_
     refine imp Ag ?_
     refine As (fun _=> ?_) (fun _=> ?_)
     ·exact Ct hR rfl rfl
     ·refine As (fun _=> ?_) (fun _=> ?_)
      ·exact Ct hR rfl rfl
      ·refine As (fun _=> ?_) (fun _=> ?_)
       ·exact Ct hR rfl rfl
       ·refine As (fun _=> ?_) (fun _=> ?_)
        ·exact Ct hR rfl rfl
        ·refine As (fun _=> ?_) (fun _=> ?_)
         ·exact Ct hR rfl rfl
         ·refine As (fun _=> ?_) (fun _=> ?_)
          ·exact Ct hR rfl rfl
          ·refine As (fun _=> ?_) (fun _=> ?_)
           ·exact Ct hR rfl rfl
           ·exact fun hg=>hN0 _ (Option.some.inj hg).symm _ (Ax [] rfl rfl rfl (Ah (An (E:=Ad.E) _ false) (oR (Ah (An (E:=Ad.E) _ false) (oR (oR A2))))) Ay)
 ·exact Ct hR rfl rfl
theorem yY (n:Nat) (a:List Ad) (b Jl:Int) {t:aS} (R:AV→Mem→Prop) (hR:∀r:aS,t=r→∀u m,B5 ((Aa r)) u m→R u m) (k:Nat) (x:Int) (hx:A7 (fun y:Int=>Nu n a b Jl y) k x=some t) {s:St} (hw:Bb KK 86 0 s (Xo (Ai Ad.E a) b (Ai Ad.E a) Jl x [])):Bu pg KK 86 0 (.loop mR) s (mG R):=
 Am7 R (σ:=Nat×(Int)) (fun z=>A7 (fun y:Int=>Nu n a b Jl y) z.1 z.2=some t) (fun z=>(Ai Ad.E a)) (fun z=>b) (fun z=>(Ai Ad.E a)) (fun z=>Jl) (fun z=>z.2) (fun z=>[]) (fun z=>z.1) (by
  rintro ⟨k,y⟩ h
  cases k with
  |zero=>exact (Bi h).elim
  |succ k=>
   obtain ⟨u,c,d,f⟩:=Bh h
   exact xV n a b Jl y R _ (fun r e=>hR r (f _ e).symm) (fun y' e s' hw=>⟨(k,y'),d _ e,Nat.lt_succ_self k,hw⟩) c) (k,x) hx hw
theorem Ak8 (n:Nat) (a:List Ad) {t:aS} (R:AV→Mem→Prop) (hR:∀r:aS,t=r→∀u m,B5 ((Aa r)) u m→R u m):eA n a=some t→F57 (Ai Ad.E a) R:=by
 unfold eA F57
 refine iq (Aa (a.length:Int)) rfl ?_
 refine imp Ag ?_
 refine As (fun _=> ?_) (fun _=> ?_)
 ·exact Ct hR rfl rfl
 ·refine iq (Aa (a.length:Int)) rfl ?_
  refine imp Ag ?_
  refine As (fun _=> ?_) (fun _=> ?_)
  ·exact Ct hR rfl rfl
  ·refine iq (Aa (a.length:Int)) rfl ?_
   refine imp Ag ?_
   exact fun hg=>yY n a (0) (a.length:Int) R hR n _ hg (Ax [] rfl rfl rfl (Ah (An (E:=Ad.E) _ false) (oR (Ah (An (E:=Ad.E) _ false) (oR (oR A2))))) Ay)
theorem Ak9 {n:Nat} {a:List Ad} {t:aS} (h:eA n a=some t):Cj pg KK.gl 57 [Ai Ad.E a] ((Aa t)):=
 A1 (by first|rfl|simp [Ap,clean,Aj,En.Cs]) (by first|rfl|simp [Ap,clean,Aj,En.Cs]) (Adc (Ai Ad.E a) _ (Ak8 n a (B5 ((Aa t))) (fun r e u m h=>by rw [e];exact h) h))
theorem pC (n:Nat) (a:Int) (b:List (List Ad)) (Jl c:Int) {t:(Int)⊕Qm} (R:AV→Mem→Prop) (N0:St→Prop) (hR:∀r:Qm,t=(.inr r)→∀u m,B5 ((Aa r)) u m→R u m) (hN0:∀y:Int,t=(.inl y)→∀s':St,Bb KK 26 0 s' (Re a (Ai (Ci Ad.E) b) Jl y [])→N0 s'):U0 n a b Jl c=some t→b6 a (Ai (Ci Ad.E) b) Jl c [] R N0:=by
 unfold U0 b6
 refine As (fun _=> ?_) (fun _=> ?_)
 ·refine Aq fun d e=> ?_
  refine iq (AV.B6 [Ai Ad.E d] 0) (Bo (E:=(Ci Ad.E)) rfl e) ?_
  refine iq (Ai Ad.E d) rfl ?_
  refine Aq fun g f=> ?_
  refine imp (Av (Ak9 f)) ?_
  refine imp Ag ?_
  refine As (fun _=> ?_) (fun _=> ?_)
  ·exact Ct hR rfl rfl
  ·exact fun hg=>hN0 _ (Option.some.inj hg).symm _ (Ax [] rfl rfl rfl (oR (Ah (An (E:=(Ci Ad.E)) _ false) (oR (oR A2)))) Ay)
 ·exact Ct hR rfl rfl
theorem qE (n:Nat) (a:Int) (b:List (List Ad)) (Jl:Int) {t:Qm} (R:AV→Mem→Prop) (hR:∀r:Qm,t=r→∀u m,B5 ((Aa r)) u m→R u m) (k:Nat) (x:Int) (hx:A7 (fun y:Int=>U0 n a b Jl y) k x=some t) {s:St} (hw:Bb KK 26 0 s (Re a (Ai (Ci Ad.E) b) Jl x [])):Bu pg KK 26 0 (.loop Ze) s (Zy R):=
 Ait R (σ:=Nat×(Int)) (fun z=>A7 (fun y:Int=>U0 n a b Jl y) z.1 z.2=some t) (fun z=>a) (fun z=>(Ai (Ci Ad.E) b)) (fun z=>Jl) (fun z=>z.2) (fun z=>[]) (fun z=>z.1) (by
  rintro ⟨k,y⟩ h
  cases k with
  |zero=>exact (Bi h).elim
  |succ k=>
   obtain ⟨u,c,d,f⟩:=Bh h
   exact pC n a b Jl y R _ (fun r e=>hR r (f _ e).symm) (fun y' e s' hw=>⟨(k,y'),d _ e,Nat.lt_succ_self k,hw⟩) c) (k,x) hx hw
theorem Agp (n:Nat) (b:H6) (a:List (List Ad)) {t:Qm} (R:AV→Mem→Prop) (hR:∀r:Qm,t=r→∀u m,B5 ((Aa r)) u m→R u m):Ab1 n b a=some t→Aff b.C6 b.Cp (Ai (Ci Ad.E) a) R:=by
 unfold Ab1 Aff
 refine Aq fun d c=> ?_
 refine imp (Av (Amj c)) ?_
 refine imp Ag ?_
 refine As (fun _=> ?_) (fun _=> ?_)
 ·exact Ct hR rfl rfl
 ·refine iq (Aa (a.length:Int)) rfl ?_
  refine imp Ag ?_
  exact fun hg=>qE n (0) a (a.length:Int) R hR n _ hg (Ax [] rfl rfl rfl (oR (Ah (An (E:=(Ci Ad.E)) _ false) (oR (oR A2)))) Ay)
theorem Al4 {n:Nat} {a:H6} {b:List (List Ad)} {t:Qm} (h:Ab1 n a b=some t):Cj pg KK.gl 164 [AV.agg [Aa a.C6,Aa a.Cp],Ai (Ci Ad.E) b] ((Aa t)):=
 A1 (by first|rfl|simp [Ap,clean,Aj,En.Cs]) (by first|rfl|simp [Ap,clean,Aj,En.Cs]) (zI a.C6 a.Cp (Ai (Ci Ad.E) b) _ (Agp n a b (B5 ((Aa t))) (fun r e u m h=>by rw [e];exact h) h))
theorem Ad5 (n:Nat) (e f:List Ad) {t:lU} (R:AV→Mem→Prop) (hR:∀r:lU,t=r→∀u m,B5 ((AV.Bn [Aa r.1,Aa r.2])) u m→R u m):Acd n e f=some t→Adh (Ai Ad.E e) (Ai Ad.E f) R:=by
 unfold Acd Adh
 refine Aq fun a g=> ?_
 refine iq (AV.B6 [Aa a.Am,Aa a.A5,Aa a.A6,Aa a.Ar,Aa a.Bl,Aa a.Co] 0) (Bo (E:=Ad.E) rfl g) ?_
 refine iq (AV.B6 [Aa a.Am,Aa a.A5,Aa a.A6,Aa a.Ar,Aa a.Bl,Aa a.Co] 0) rfl ?_
 refine iq (AV.B6 [Aa a.Am,Aa a.A5,Aa a.A6,Aa a.Ar,Aa a.Bl,Aa a.Co] 0) rfl ?_
 refine iq (Aa a.Am) rfl ?_
 refine imp Ag ?_
 refine Aq fun b h=> ?_
 refine iq (AV.B6 [Aa b.Am,Aa b.A5,Aa b.A6,Aa b.Ar,Aa b.Bl,Aa b.Co] 0) (Bo (E:=Ad.E) rfl h) ?_
 refine iq (AV.B6 [Aa b.Am,Aa b.A5,Aa b.A6,Aa b.Ar,Aa b.Bl,Aa b.Co] 0) rfl ?_
 refine iq (AV.B6 [Aa b.Am,Aa b.A5,Aa b.A6,Aa b.Ar,Aa b.Bl,Aa b.Co] 0) rfl ?_
 refine iq (Aa b.Am) rfl ?_
 refine imp Ag ?_
 refine iq (Aa (if b.Am>a.Am then b.Am else a.Am)) Bf ?_
 refine imp Ag ?_
 refine iq (Aa (e.length:Int)) rfl ?_
 refine imp Ag ?_
 refine Aq fun c i=> ?_
 refine iq (AV.B6 [Aa c.Am,Aa c.A5,Aa c.A6,Aa c.Ar,Aa c.Bl,Aa c.Co] 0) (Bo (E:=Ad.E) rfl i) ?_
 refine iq (AV.B6 [Aa c.Am,Aa c.A5,Aa c.A6,Aa c.Ar,Aa c.Bl,Aa c.Co] 0) rfl ?_
 refine iq (AV.B6 [Aa c.Am,Aa c.A5,Aa c.A6,Aa c.Ar,Aa c.Bl,Aa c.Co] 0) rfl ?_
 refine iq (Aa c.Am) rfl ?_
 refine imp Ag ?_
 refine iq (Aa (f.length:Int)) rfl ?_
 refine imp Ag ?_
 refine Aq fun d j=> ?_
 refine iq (AV.B6 [Aa d.Am,Aa d.A5,Aa d.A6,Aa d.Ar,Aa d.Bl,Aa d.Co] 0) (Bo (E:=Ad.E) rfl j) ?_
 refine iq (AV.B6 [Aa d.Am,Aa d.A5,Aa d.A6,Aa d.Ar,Aa d.Bl,Aa d.Co] 0) rfl ?_
 refine iq (AV.B6 [Aa d.Am,Aa d.A5,Aa d.A6,Aa d.Ar,Aa d.Bl,Aa d.Co] 0) rfl ?_
 refine iq (Aa d.Am) rfl ?_
 refine imp Ag ?_
 refine iq (Aa (if d.Am<c.Am then d.Am else c.Am)) Bf ?_
 refine imp Ag ?_
 exact fun hg=>D7 rfl (hR _ (Option.some.inj hg).symm) (fS (fS By))
theorem Alo {n:Nat} {a:List Ad} {b:List Ad} {t:lU} (h:Acd n a b=some t):Cj pg KK.gl 223 [Ai Ad.E a,Ai Ad.E b] ((AV.Bn [Aa t.1,Aa t.2])):=
 A1 (by first|rfl|simp [Ap,clean,Aj,En.Cs]) (by first|rfl|simp [Ap,clean,Aj,En.Cs]) (wT (Ai Ad.E a) (Ai Ad.E b) _ (Ad5 n a b (B5 ((AV.Bn [Aa t.1,Aa t.2]))) (fun r e u m h=>by rw [e];exact h) h))
theorem Akl (n:Nat) (c:List Ad) {t:Afi} (R:AV→Mem→Prop) (hR:∀r:Afi,t=r→∀u m,B5 ((AV.Bn [Aa r.1,Aa r.2])) u m→R u m):g58 n c=some t→F58 (Ai Ad.E c) R:=by
 unfold g58 F58
 refine Aq fun a d=> ?_
 refine iq (AV.B6 [Aa a.Am,Aa a.A5,Aa a.A6,Aa a.Ar,Aa a.Bl,Aa a.Co] 0) (Bo (E:=Ad.E) rfl d) ?_
 refine iq (AV.B6 [Aa a.Am,Aa a.A5,Aa a.A6,Aa a.Ar,Aa a.Bl,Aa a.Co] 0) rfl ?_
 refine iq (AV.B6 [Aa a.Am,Aa a.A5,Aa a.A6,Aa a.Ar,Aa a.Bl,Aa a.Co] 0) rfl ?_
 refine iq (Aa a.Am) rfl ?_
 refine imp Ag ?_
 refine iq (Aa (c.length:Int)) rfl ?_
 refine imp Ag ?_
 refine Aq fun b e=> ?_
 refine iq (AV.B6 [Aa b.Am,Aa b.A5,Aa b.A6,Aa b.Ar,Aa b.Bl,Aa b.Co] 0) (Bo (E:=Ad.E) rfl e) ?_
 refine iq (AV.B6 [Aa b.Am,Aa b.A5,Aa b.A6,Aa b.Ar,Aa b.Bl,Aa b.Co] 0) rfl ?_
 refine iq (AV.B6 [Aa b.Am,Aa b.A5,Aa b.A6,Aa b.Ar,Aa b.Bl,Aa b.Co] 0) rfl ?_
 refine iq (Aa b.Am) rfl ?_
 refine imp Ag ?_
 exact fun hg=>D7 rfl (hR _ (Option.some.inj hg).symm) (fS (fS By))
theorem Aot {n:Nat} {a:List Ad} {t:Afi} (h:g58 n a=some t):Cj pg KK.gl 58 [Ai Ad.E a] ((AV.Bn [Aa t.1,Aa t.2])):=
 A1 (by first|rfl|simp [Ap,clean,Aj,En.Cs]) (by first|rfl|simp [Ap,clean,Aj,En.Cs]) (Ag9 (Ai Ad.E a) _ (Akl n a (B5 ((AV.Bn [Aa t.1,Aa t.2]))) (fun r e u m h=>by rw [e];exact h) h))
theorem Aby (n:Nat) (a:Ad) (b:Int) {t:mV} (R:AV→Mem→Prop) (hR:∀r:mV,t=r→∀u m,B5 ((Aa r)) u m→R u m):gO n a b=some t→Ad0 a.Am a.A5 a.A6 a.Ar a.Bl a.Co b R:=by
 unfold gO Ad0
 exact Ct hR rfl rfl
theorem Ahz {n:Nat} {a:Ad} {b:Int} {t:mV} (h:gO n a b=some t):Cj pg KK.gl 141 [AV.agg [Aa a.Am,Aa a.A5,Aa a.A6,Aa a.Ar,Aa a.Bl,Aa a.Co],Aa b] ((Aa t)):=
 A1 (by first|rfl|simp [Ap,clean,Aj,En.Cs]) (by first|rfl|simp [Ap,clean,Aj,En.Cs]) (xT a.Am a.A5 a.A6 a.Ar a.Bl a.Co b _ (Aby n a b (B5 ((Aa t))) (fun r e u m h=>by rw [e];exact h) h))
theorem sB (n:Nat) (e:List Ad) (f g:Int) (c7:Bool) (h c d:Int) {t:(Int×Int)⊕Qr} (R:AV→Mem→Prop) (N0:St→Prop) (hR:∀r:Qr,t=(.inr r)→∀u m,B5 ((AV.Bn [Aa r.1,Ae r.2])) u m→R u m) (hN0:∀y:Int×Int,t=(.inl y)→∀s':St,Bb KK 49 0 s' (R7 (Ai Ad.E e) f (AV.fn 141 []) g c7 h y.1 y.2 [])→N0 s'):Og n e f g c7 h c d=some t→Zr (Ai Ad.E e) f (AV.fn 141 []) g c7 h c d [] R N0:=by
 unfold Og Zr
 refine As (fun _=> ?_) (fun _=> ?_)
 ·refine iq (AV.sc (.int .u64 (IntKind.wrap .u64 (IntKind.wrap .i64 (c+d))))) Bf ?_
  refine imp Lw ?_
  refine imp (Ds (show _=some ((AV.sc (.int .u64 (Int.fdiv (IntKind.wrap .u64 (IntKind.wrap .i64 (c+d))) 2))),[]) from wE)) ?_
  refine imp Lw ?_
  refine iq (Aa (IntKind.wrap .i64 (Int.fdiv (IntKind.wrap .u64 (IntKind.wrap .i64 (c+d))) 2))) Bf ?_
  refine imp Ag ?_
  refine Aq fun a i=> ?_
  refine iq (AV.B6 [Aa a.Am,Aa a.A5,Aa a.A6,Aa a.Ar,Aa a.Bl,Aa a.Co] 0) (Bo (E:=Ad.E) rfl i) ?_
  refine iq (AV.agg [Aa a.Am,Aa a.A5,Aa a.A6,Aa a.Ar,Aa a.Bl,Aa a.Co]) rfl ?_
  refine imp Jc ?_
  iterate 6 refine imp Ag ?_
  refine Aq fun o j=> ?_
  refine imp Iy ?_
  refine imp (nM rfl) ?_
  refine imp (Av (Ahz j)) ?_
  refine imp Ag ?_
  refine As (fun _=> ?_) (fun _=> ?_)
  ·exact fun hg=>hN0 _ (Option.some.inj hg).symm _ (Ax [] rfl rfl rfl (Ah (An (E:=Ad.E) _ false) (oR (oR (oR (oR (oR (oR (oR A2)))))))) Ay)
  ·exact fun hg=>hN0 _ (Option.some.inj hg).symm _ (Ax [] rfl rfl rfl (Ah (An (E:=Ad.E) _ false) (oR (oR (oR (oR (oR (oR (oR A2)))))))) Ay)
 ·refine As (fun _=> ?_) (fun _=> ?_)
  ·refine Aq fun b k=> ?_
   refine iq (AV.B6 [Aa b.Am,Aa b.A5,Aa b.A6,Aa b.Ar,Aa b.Bl,Aa b.Co] 0) (Bo (E:=Ad.E) rfl k) ?_
   refine iq (AV.agg [Aa b.Am,Aa b.A5,Aa b.A6,Aa b.Ar,Aa b.Bl,Aa b.Co]) rfl ?_
   refine imp Jc ?_
   iterate 6 refine imp Ag ?_
   refine Aq fun p l=> ?_
   refine imp Iy ?_
   refine imp (nM rfl) ?_
   refine imp (Av (Ahz l)) ?_
   refine imp Ag ?_
   exact fun hg=>D7 rfl (hR _ (Option.some.inj hg).symm) (fS (fS By))
  ·exact fun hg=>D7 rfl (hR _ (Option.some.inj hg).symm) (fS (fS By))
theorem p9 (n:Nat) (a:List Ad) (b c:Int) (c7:Bool) (d:Int) {t:Qr} (R:AV→Mem→Prop) (hR:∀r:Qr,t=r→∀u m,B5 ((AV.Bn [Aa r.1,Ae r.2])) u m→R u m) (k:Nat) (x:Int×Int) (hx:A7 (fun y:Int×Int=>Og n a b c c7 d y.1 y.2) k x=some t) {s:St} (hw:Bb KK 49 0 s (R7 (Ai Ad.E a) b (AV.fn 141 []) c c7 d x.1 x.2 [])):Bu pg KK 49 0 (.loop Zh) s (Yw R):=
 Ai1 R (σ:=Nat×(Int×Int)) (fun z=>A7 (fun y:Int×Int=>Og n a b c c7 d y.1 y.2) z.1 z.2=some t) (fun z=>(Ai Ad.E a)) (fun z=>b) (fun z=>(AV.fn 141 [])) (fun z=>c) (fun z=>c7) (fun z=>d) (fun z=>z.2.1) (fun z=>z.2.2) (fun z=>[]) (fun z=>z.1) (by
  rintro ⟨k,y⟩ h
  cases k with
  |zero=>exact (Bi h).elim
  |succ k=>
   obtain ⟨u,f,g,i⟩:=Bh h
   exact sB n a b c c7 d y.1 y.2 R _ (fun r e=>hR r (i _ e).symm) (fun y' e s' hw=>⟨(k,y'),g _ e,Nat.lt_succ_self k,hw⟩) f) (k,x) hx hw
theorem Abv (n:Nat) (a:List Ad) (b:Int) {t:Qr} (R:AV→Mem→Prop) (hR:∀r:Qr,t=r→∀u m,B5 ((AV.Bn [Aa r.1,Ae r.2])) u m→R u m):rE n a b=some t→Aew (Ai Ad.E a) b (AV.fn 141 []) R:=by
 unfold rE Aew
 refine iq (Aa (a.length:Int)) rfl ?_
 refine imp Ag ?_
 exact fun hg=>p9 n a b (0) false (a.length:Int) R hR n _ hg (Ax [] rfl rfl rfl (Ah (An (E:=Ad.E) _ false) (oR (oR (oR (oR (oR (oR (oR A2)))))))) Ay)
theorem An2 {n:Nat} {a:List Ad} {b:Int} {t:Qr} (h:rE n a b=some t):Cj pg KK.gl 140 [Ai Ad.E a,Aa b,AV.fn 141 []] ((AV.Bn [Aa t.1,Ae t.2])):=
 A1 (by first|rfl|simp [Ap,clean,Aj,En.Cs]) (by first|rfl|simp [Ap,clean,Aj,En.Cs]) (Aas (Ai Ad.E a) b (AV.fn 141 []) _ (Abv n a b (B5 ((AV.Bn [Aa t.1,Ae t.2]))) (fun r e u m h=>by rw [e];exact h) h))
theorem Abe (n:Nat) (a b:Int) {t:mN} (R:AV→Mem→Prop) (hR:∀r:mN,t=r→∀u m,B5 ((AV.Bn [Aa r.1,Aa r.2])) u m→R u m):aU n a b=some t→Ag0 a b R:=by
 unfold aU Ag0
 refine As (fun _=> ?_) (fun _=> ?_)
 ·exact fun hg=>D7 rfl (hR _ (Option.some.inj hg).symm) (fS (fS By))
 ·refine As (fun _=> ?_) (fun _=> ?_)
  ·refine As (fun _=> ?_) (fun _=> ?_)
   ·exact fun hg=>D7 rfl (hR _ (Option.some.inj hg).symm) (fS (fS By))
   ·refine Aq fun c d=> ?_
    refine iq (Aa (IntKind.wrap .i64 c)) (mC d) ?_
    refine imp Ag ?_
    refine Aq fun e f=> ?_
    refine iq (Aa e) (La f) ?_
    refine imp Ag ?_
    refine As (fun _=> ?_) (fun _=> ?_)
    ·refine iq (Ae (!((decide (a<(0)))==(decide (b<(0)))))) Bf ?_
     refine imp Dn ?_
     refine As (fun _=> ?_) (fun _=> ?_)
     ·exact fun hg=>D7 rfl (hR _ (Option.some.inj hg).symm) (fS (fS By))
     ·exact fun hg=>D7 rfl (hR _ (Option.some.inj hg).symm) (fS (fS By))
    ·exact fun hg=>D7 rfl (hR _ (Option.some.inj hg).symm) (fS (fS By))
  ·refine Aq fun g h=> ?_
   refine iq (Aa (IntKind.wrap .i64 g)) (mC h) ?_
   refine imp Ag ?_
   refine Aq fun i j=> ?_
   refine iq (Aa i) (La j) ?_
   refine imp Ag ?_
   refine As (fun _=> ?_) (fun _=> ?_)
   ·refine iq (Ae (!((decide (a<(0)))==(decide (b<(0)))))) Bf ?_
    refine imp Dn ?_
    refine As (fun _=> ?_) (fun _=> ?_)
    ·exact fun hg=>D7 rfl (hR _ (Option.some.inj hg).symm) (fS (fS By))
    ·exact fun hg=>D7 rfl (hR _ (Option.some.inj hg).symm) (fS (fS By))
   ·exact fun hg=>D7 rfl (hR _ (Option.some.inj hg).symm) (fS (fS By))
theorem lM {n:Nat} {a:Int} {b:Int} {t:mN} (h:aU n a b=some t):Cj pg KK.gl 143 [Aa a,Aa b] ((AV.Bn [Aa t.1,Aa t.2])):=
 A1 (by first|rfl|simp [Ap,clean,Aj,En.Cs]) (by first|rfl|simp [Ap,clean,Aj,En.Cs]) (uB a b _ (Abe n a b (B5 ((AV.Bn [Aa t.1,Aa t.2]))) (fun r e u m h=>by rw [e];exact h) h))
theorem Ae4 (n:Nat) (a b:TP) (e f:Int) {t:oM} (R:AV→Mem→Prop) (hR:∀r:oM,t=r→∀u m,B5 ((AV.Bn [AV.agg (TP.E.enc r.1),Aa r.2])) u m→R u m):o9 n a b e f=some t→Ad4 a.X a.Y b.X b.Y e f R:=by
 unfold o9 Ad4
 refine As (fun _=> ?_) (fun _=> ?_)
 ·refine iq (AV.agg [Aa (0),Aa (0)]) rfl ?_
  refine imp (Bz (sz:=2) Bf Bf rfl rfl (cs:=[Aa (0),Aa (0)]) (cs':=[Aa (0),Aa (0)]) (ty:=51) B8 rfl rfl) ?_
  exact fun hg=>D7 rfl (hR _ (Option.some.inj hg).symm) (Di (Im (E:=TP.E) _ (⟨0,0⟩:TP)) (fS By))
 ·refine As (fun _=> ?_) (fun _=> ?_)
  ·refine iq (AV.agg [Aa (0),Aa (0)]) rfl ?_
   refine imp (Bz (sz:=2) Bf Bf rfl rfl (cs:=[Aa (0),Aa (0)]) (cs':=[Aa (0),Aa (0)]) (ty:=51) B8 rfl rfl) ?_
   exact fun hg=>D7 rfl (hR _ (Option.some.inj hg).symm) (Di (Im (E:=TP.E) _ (⟨0,0⟩:TP)) (fS By))
  ·refine As (fun _=> ?_) (fun _=> ?_)
   ·refine iq (AV.agg [Aa (0),Aa (0)]) rfl ?_
    refine imp (Bz (sz:=2) Bf Bf rfl rfl (cs:=[Aa (0),Aa (0)]) (cs':=[Aa (0),Aa (0)]) (ty:=51) B8 rfl rfl) ?_
    exact fun hg=>D7 rfl (hR _ (Option.some.inj hg).symm) (Di (Im (E:=TP.E) _ (⟨0,0⟩:TP)) (fS By))
   ·refine As (fun _=> ?_) (fun _=> ?_)
    ·refine iq (AV.agg [Aa (0),Aa (0)]) rfl ?_
     refine imp (Bz (sz:=2) Bf Bf rfl rfl (cs:=[Aa (0),Aa (0)]) (cs':=[Aa (0),Aa (0)]) (ty:=51) B8 rfl rfl) ?_
     exact fun hg=>D7 rfl (hR _ (Option.some.inj hg).symm) (Di (Im (E:=TP.E) _ (⟨0,0⟩:TP)) (fS By))
    ·refine Aq fun o g=> ?_
     refine imp (Av (j4 g)) ?_
     refine imp Ag ?_
     refine As (fun _=> ?_) (fun _=> ?_)
     ·refine iq (AV.agg [Aa (0),Aa (0)]) rfl ?_
      refine Aq fun p h=> ?_
      refine imp (Av (j4 h)) ?_
      refine imp Ag ?_
      refine imp (Bz (sz:=2) Bf Bf rfl rfl (cs:=[Aa (0),Aa (0)]) (cs':=[Aa (0),Aa (0)]) (ty:=51) B8 rfl rfl) ?_
      exact fun hg=>D7 rfl (hR _ (Option.some.inj hg).symm) (Di (Im (E:=TP.E) _ (⟨0,0⟩:TP)) (fS By))
     ·refine Aq fun q i=> ?_
      refine imp (Av (j4 i)) ?_
      refine imp Ag ?_
      refine As (fun _=> ?_) (fun _=> ?_)
      ·refine iq (AV.agg [Aa (0),Aa (0)]) rfl ?_
       refine Aq fun s j=> ?_
       refine imp (Av (j4 j)) ?_
       refine imp Ag ?_
       refine imp (Bz (sz:=2) Bf Bf rfl rfl (cs:=[Aa (0),Aa (0)]) (cs':=[Aa (0),Aa (0)]) (ty:=51) B8 rfl rfl) ?_
       exact fun hg=>D7 rfl (hR _ (Option.some.inj hg).symm) (Di (Im (E:=TP.E) _ (⟨0,0⟩:TP)) (fS By))
      ·refine Aq fun c k=> ?_
       refine imp (Av (lM k)) ?_
       refine imp Ec ?_
       iterate 2 refine imp Ag ?_
       refine Aq fun d l=> ?_
       refine imp (Av (lM l)) ?_
       refine imp Ec ?_
       iterate 2 refine imp Ag ?_
       refine iq (AV.agg [Aa (IntKind.wrap .i64 (a.X+c.1)),Aa (IntKind.wrap .i64 (a.Y+d.1))]) rfl ?_
       refine imp (Bz (sz:=2) Bf Bf rfl rfl (cs:=[Aa (0),Aa (0)]) (cs':=[Aa (IntKind.wrap .i64 (a.X+c.1)),Aa (IntKind.wrap .i64 (a.Y+d.1))]) (ty:=51) B8 rfl rfl) ?_
       exact fun hg=>D7 rfl (hR _ (Option.some.inj hg).symm) (Di (Im (E:=TP.E) _ (⟨IntKind.wrap .i64 (a.X+c.1),IntKind.wrap .i64 (a.Y+d.1)⟩:TP)) (fS By))
theorem An4 {n:Nat} {a:TP} {b:TP} {c:Int} {d:Int} {t:oM} (h:o9 n a b c d=some t):Cj pg KK.gl 142 [AV.agg [Aa a.X,Aa a.Y],AV.agg [Aa b.X,Aa b.Y],Aa c,Aa d] ((AV.Bn [AV.agg (TP.E.enc t.1),Aa t.2])):=
 A1 (by first|rfl|simp [Ap,clean,Aj,En.Cs]) (by first|rfl|simp [Ap,clean,Aj,En.Cs]) (vX a.X a.Y b.X b.Y c d _ (Ae4 n a b c d (B5 ((AV.Bn [AV.agg (TP.E.enc t.1),Aa t.2]))) (fun r e u m h=>by rw [e];exact h) h))
theorem Ac8 (n:Nat) (a b:Int) {t:mE} (R:AV→Mem→Prop) (hR:∀r:mE,t=r→∀u m,B5 ((AV.Bn [Aa r.1,Aa r.2])) u m→R u m):iH n a b=some t→Ae8 a b R:=by
 unfold iH Ae8
 refine Aq fun f c=> ?_
 refine imp (Av (lM c)) ?_
 refine imp Ec ?_
 iterate 2 refine imp Ag ?_
 refine As (fun _=> ?_) (fun _=> ?_)
 ·refine Aq fun d e=> ?_
  refine iq (Aa d) (La e) ?_
  refine imp Ag ?_
  refine As (fun _=> ?_) (fun _=> ?_)
  ·exact fun hg=>D7 rfl (hR _ (Option.some.inj hg).symm) (fS (fS By))
  ·exact fun hg=>D7 rfl (hR _ (Option.some.inj hg).symm) (fS (fS By))
 ·exact fun hg=>D7 rfl (hR _ (Option.some.inj hg).symm) (fS (fS By))
theorem Ahn {n:Nat} {a:Int} {b:Int} {t:mE} (h:iH n a b=some t):Cj pg KK.gl 144 [Aa a,Aa b] ((AV.Bn [Aa t.1,Aa t.2])):=
 A1 (by first|rfl|simp [Ap,clean,Aj,En.Cs]) (by first|rfl|simp [Ap,clean,Aj,En.Cs]) (zA a b _ (Ac8 n a b (B5 ((AV.Bn [Aa t.1,Aa t.2]))) (fun r e u m h=>by rw [e];exact h) h))
theorem Ak7 (n:Nat) (j:List Ad) (f:Int) {t:Ac7} (R:AV→Mem→Prop) (hR:∀r:Ac7,t=r→∀u m,B5 ((AV.agg (Ad.E.enc r))) u m→R u m):g59 n j f=some t→F59 (Ai Ad.E j) f R:=by
 unfold g59 F59
 refine Aq fun x k=> ?_
 refine imp (Gh (An2 k)) ?_
 refine imp Ec ?_
 refine imp Ag ?_
 refine imp Dn ?_
 refine As (fun _=> ?_) (fun _=> ?_)
 ·refine Aq fun d l=> ?_
  refine iq (AV.B6 [Aa d.Am,Aa d.A5,Aa d.A6,Aa d.Ar,Aa d.Bl,Aa d.Co] 0) (Bo (E:=Ad.E) rfl l) ?_
  refine iq (AV.agg [Aa d.Am,Aa d.A5,Aa d.A6,Aa d.Ar,Aa d.Bl,Aa d.Co]) rfl ?_
  refine imp Jc ?_
  iterate 6 refine imp Ag ?_
  refine imp (Bz (sz:=6) Bf Bf rfl rfl (cs:=[Aa (0),Aa (0),Aa (0),Aa (0),Aa (0),Aa (0)]) (cs':=[Aa d.Am,Aa d.A5,Aa d.A6,Aa d.Ar,Aa d.Bl,Aa d.Co]) (ty:=55) B8 rfl rfl) ?_
  exact fun hg=>gI (hR _ (Option.some.inj hg).symm) (Im (E:=Ad.E) _ d)
 ·refine Aq fun a o=> ?_
  refine imp (Cu (show _=some ((AV.B6 [Aa a.Am,Aa a.A5,Aa a.A6,Aa a.Ar,Aa a.Bl,Aa a.Co] 0),[]) from (Bo (E:=Ad.E) rfl o))) ?_
  refine imp (Cu (show _=some ((AV.agg [Aa a.Am,Aa a.A5,Aa a.A6,Aa a.Ar,Aa a.Bl,Aa a.Co]),[]) from rfl)) ?_
  refine imp Jc ?_
  iterate 6 refine imp Ag ?_
  refine Aq fun c p=> ?_
  refine imp (Cu (show _=some ((AV.B6 [Aa c.Am,Aa c.A5,Aa c.A6,Aa c.Ar,Aa c.Bl,Aa c.Co] 0),[]) from (Bo (E:=Ad.E) rfl p))) ?_
  refine imp (Cu (show _=some ((AV.agg [Aa c.Am,Aa c.A5,Aa c.A6,Aa c.Ar,Aa c.Bl,Aa c.Co]),[]) from rfl)) ?_
  refine imp Jc ?_
  iterate 6 refine imp Ag ?_
  refine imp (Bz (sz:=6) Bf Bf rfl rfl (cs:=[Aa (0),Aa (0),Aa (0),Aa (0),Aa (0),Aa (0)]) (cs':=[Aa a.Am,Aa a.A5,Aa a.A6,Aa a.Ar,Aa a.Bl,Aa a.Co]) (ty:=55) (by first|rfl|(rw [Dw (by first|rfl|simp [Dx]|simp [A3])];first|rfl|(simp (disch:=first|decide|assumption) only [lk]))) rfl rfl) ?_
  refine imp (Bz (sz:=6) Bf Bf rfl rfl (cs:=[Aa (0),Aa (0),Aa (0),Aa (0),Aa (0),Aa (0)]) (cs':=[Aa c.Am,Aa c.A5,Aa c.A6,Aa c.Ar,Aa c.Bl,Aa c.Co]) (ty:=55) (by first|rfl|(rw [Dw (by first|rfl|simp [Dx]|simp [A3])];first|rfl|(simp (disch:=first|decide|assumption) only [lk]))) rfl rfl) ?_
  refine imp (Dd Bf) ?_
  refine iq (Aa a.Am) (Cm (b:=⟨[Aa a.Am,Aa a.A5,Aa a.A6,Aa a.Ar,Aa a.Bl,Aa a.Co],55⟩) B8 rfl) ?_
  refine imp Ag ?_
  refine iq (Aa c.Am) (Cm (b:=⟨[Aa c.Am,Aa c.A5,Aa c.A6,Aa c.Ar,Aa c.Bl,Aa c.Co],55⟩) B8 rfl) ?_
  refine imp Ag ?_
  refine iq (Aa a.Am) (Cm (b:=⟨[Aa a.Am,Aa a.A5,Aa a.A6,Aa a.Ar,Aa a.Bl,Aa a.Co],55⟩) B8 rfl) ?_
  refine imp Ag ?_
  refine iq (AV.agg [Aa a.A5,Aa a.A6]) (Dz (b:=⟨[Aa a.Am,Aa a.A5,Aa a.A6,Aa a.Ar,Aa a.Bl,Aa a.Co],55⟩) B8 rfl) ?_
  refine imp Bw ?_
  iterate 2 refine imp Ag ?_
  refine iq (AV.agg [Aa c.A5,Aa c.A6]) (Dz (b:=⟨[Aa c.Am,Aa c.A5,Aa c.A6,Aa c.Ar,Aa c.Bl,Aa c.Co],55⟩) B8 rfl) ?_
  refine imp Bw ?_
  iterate 2 refine imp Ag ?_
  refine Aq fun e q=> ?_
  refine imp (Av (An4 q)) ?_
  refine imp Ec ?_
  refine imp Bw ?_
  iterate 3 refine imp Ag ?_
  refine iq (Aa c.Ar) (Cm (b:=⟨[Aa c.Am,Aa c.A5,Aa c.A6,Aa c.Ar,Aa c.Bl,Aa c.Co],55⟩) B8 rfl) ?_
  refine imp Ag ?_
  refine iq (Aa a.Ar) (Cm (b:=⟨[Aa a.Am,Aa a.A5,Aa a.A6,Aa a.Ar,Aa a.Bl,Aa a.Co],55⟩) B8 rfl) ?_
  refine imp Ag ?_
  refine Aq fun g s=> ?_
  refine imp (Av (lM s)) ?_
  refine imp Ec ?_
  iterate 2 refine imp Ag ?_
  refine iq (Aa c.Bl) (Cm (b:=⟨[Aa c.Am,Aa c.A5,Aa c.A6,Aa c.Ar,Aa c.Bl,Aa c.Co],55⟩) B8 rfl) ?_
  refine imp Ag ?_
  refine iq (Aa a.Bl) (Cm (b:=⟨[Aa a.Am,Aa a.A5,Aa a.A6,Aa a.Ar,Aa a.Bl,Aa a.Co],55⟩) B8 rfl) ?_
  refine imp Ag ?_
  refine Aq fun h v=> ?_
  refine imp (Av (Ahn v)) ?_
  refine imp Ec ?_
  iterate 2 refine imp Ag ?_
  refine iq (Aa c.Co) (Cm (b:=⟨[Aa c.Am,Aa c.A5,Aa c.A6,Aa c.Ar,Aa c.Bl,Aa c.Co],55⟩) B8 rfl) ?_
  refine imp Ag ?_
  refine iq (Aa a.Co) (Cm (b:=⟨[Aa a.Am,Aa a.A5,Aa a.A6,Aa a.Ar,Aa a.Bl,Aa a.Co],55⟩) B8 rfl) ?_
  refine imp Ag ?_
  refine Aq fun i w=> ?_
  refine imp (Av (Ahn w)) ?_
  refine imp Ec ?_
  iterate 2 refine imp Ag ?_
  refine iq (Aa a.Ar) (Cm (b:=⟨[Aa a.Am,Aa a.A5,Aa a.A6,Aa a.Ar,Aa a.Bl,Aa a.Co],55⟩) B8 rfl) ?_
  refine imp Ag ?_
  refine iq (AV.agg [Aa f,Aa e.1.X,Aa e.1.Y,Aa (IntKind.wrap .i64 (a.Ar+g.1))]) rfl ?_
  refine iq (Aa a.Bl) (Cm (b:=⟨[Aa a.Am,Aa a.A5,Aa a.A6,Aa a.Ar,Aa a.Bl,Aa a.Co],55⟩) B8 rfl) ?_
  refine imp Ag ?_
  refine iq (Aa a.Co) (Cm (b:=⟨[Aa a.Am,Aa a.A5,Aa a.A6,Aa a.Ar,Aa a.Bl,Aa a.Co],55⟩) B8 rfl) ?_
  refine imp Ag ?_
  refine iq (AV.agg [Aa f,Aa e.1.X,Aa e.1.Y,Aa (IntKind.wrap .i64 (a.Ar+g.1)),Aa (IntKind.wrap .i64 (a.Bl+h.1)),Aa (IntKind.wrap .i64 (a.Co+i.1))]) rfl ?_
  refine imp (Bz (sz:=6) Bf Bf rfl rfl (cs:=[Aa (0),Aa (0),Aa (0),Aa (0),Aa (0),Aa (0)]) (cs':=[Aa f,Aa e.1.X,Aa e.1.Y,Aa (IntKind.wrap .i64 (a.Ar+g.1)),Aa (IntKind.wrap .i64 (a.Bl+h.1)),Aa (IntKind.wrap .i64 (a.Co+i.1))]) (ty:=55) B8 rfl rfl) ?_
  exact fun hg=>gI (hR _ (Option.some.inj hg).symm) (Im (E:=Ad.E) _ (⟨f,e.1.X,e.1.Y,IntKind.wrap .i64 (a.Ar+g.1),IntKind.wrap .i64 (a.Bl+h.1),IntKind.wrap .i64 (a.Co+i.1)⟩:Ad))
theorem An8 {n:Nat} {a:List Ad} {b:Int} {t:Ac7} (h:g59 n a b=some t):Cj pg KK.gl 59 [Ai Ad.E a,Aa b] ((AV.agg (Ad.E.enc t))):=
 A1 (by first|rfl|simp [Ap,clean,Aj,En.Cs]) (by first|rfl|simp [Ap,clean,Aj,En.Cs]) (Afz (Ai Ad.E a) b _ (Ak7 n a b (B5 ((AV.agg (Ad.E.enc t)))) (fun r e u m h=>by rw [e];exact h) h))
theorem Akx (n:Nat) (a:List Ad) (b:Int) {t:Ae6} (R:AV→Mem→Prop) (hR:∀r:Ae6,t=r→∀u m,B5 ((AV.Bn [AV.agg (Ad.E.enc r.1),Aa r.2])) u m→R u m):g15 n a b=some t→F15 (Ai Ad.E a) b R:=by
 unfold g15 F15
 refine Aq fun g c=> ?_
 refine imp (Av (Ak9 c)) ?_
 refine imp Ag ?_
 refine As (fun _=> ?_) (fun _=> ?_)
 ·refine iq (AV.agg [Aa (0),Aa (0),Aa (0),Aa (0),Aa (0),Aa (0)]) rfl ?_
  refine imp (Bz (sz:=6) Bf Bf rfl rfl (cs:=[Aa (0),Aa (0),Aa (0),Aa (0),Aa (0),Aa (0)]) (cs':=[Aa (0),Aa (0),Aa (0),Aa (0),Aa (0),Aa (0)]) (ty:=55) B8 rfl rfl) ?_
  exact fun hg=>D7 rfl (hR _ (Option.some.inj hg).symm) (Di (Im (E:=Ad.E) _ (⟨0,0,0,0,0,0⟩:Ad)) (fS By))
 ·refine Aq fun h d=> ?_
  refine imp (Av (Aot d)) ?_
  refine imp Ec ?_
  iterate 2 refine imp Ag ?_
  refine As (fun _=> ?_) (fun _=> ?_)
  ·refine iq (AV.agg [Aa (0),Aa (0),Aa (0),Aa (0),Aa (0),Aa (0)]) rfl ?_
   refine imp (Bz (sz:=6) Bf Bf rfl rfl (cs:=[Aa (0),Aa (0),Aa (0),Aa (0),Aa (0),Aa (0)]) (cs':=[Aa (0),Aa (0),Aa (0),Aa (0),Aa (0),Aa (0)]) (ty:=55) B8 rfl rfl) ?_
   exact fun hg=>D7 rfl (hR _ (Option.some.inj hg).symm) (Di (Im (E:=Ad.E) _ (⟨0,0,0,0,0,0⟩:Ad)) (fS By))
  ·refine As (fun _=> ?_) (fun _=> ?_)
   ·refine iq (AV.agg [Aa (0),Aa (0),Aa (0),Aa (0),Aa (0),Aa (0)]) rfl ?_
    refine imp (Bz (sz:=6) Bf Bf rfl rfl (cs:=[Aa (0),Aa (0),Aa (0),Aa (0),Aa (0),Aa (0)]) (cs':=[Aa (0),Aa (0),Aa (0),Aa (0),Aa (0),Aa (0)]) (ty:=55) B8 rfl rfl) ?_
    exact fun hg=>D7 rfl (hR _ (Option.some.inj hg).symm) (Di (Im (E:=Ad.E) _ (⟨0,0,0,0,0,0⟩:Ad)) (fS By))
   ·refine Aq fun e f=> ?_
    refine imp (Av (An8 f)) ?_
    refine imp Jc ?_
    iterate 6 refine imp Ag ?_
    exact fun hg=>D7 rfl (hR _ (Option.some.inj hg).symm) (Di (Im (E:=Ad.E) _ e) (fS By))
theorem Afu {n:Nat} {a:List Ad} {b:Int} {t:Ae6} (h:g15 n a b=some t):Cj pg KK.gl 15 [Ai Ad.E a,Aa b] ((AV.Bn [AV.agg (Ad.E.enc t.1),Aa t.2])):=
 A1 (by first|rfl|simp [Ap,clean,Aj,En.Cs]) (by first|rfl|simp [Ap,clean,Aj,En.Cs]) (Aa9 (Ai Ad.E a) b _ (Akx n a b (B5 ((AV.Bn [AV.agg (Ad.E.enc t.1),Aa t.2]))) (fun r e u m h=>by rw [e];exact h) h))
end Go.Proofs.YtmechmjjcgdpdaaGreatDoor
