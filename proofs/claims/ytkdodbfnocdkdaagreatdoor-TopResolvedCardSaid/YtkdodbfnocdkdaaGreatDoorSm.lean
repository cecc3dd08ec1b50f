/- A part. -/
import Derived.Test.YtkdodbfnocdkdaaGreatDoorX1T
set_option linter.unusedVariables false
namespace Go.Proofs.YtkdodbfnocdkdaaGreatDoor
theorem piH {a b nx:Nat} {r:List (Nat×Nat)}:Iz ((a,b)::r) nx a=b:=by simp [Iz]
theorem piT {a b nx i:Nat} {r:List (Nat×Nat)} (h:a≠i):Iz ((a,b)::r) nx i=Iz r nx i:=by
 show (bif Nat.beq a i then b else Iz r nx i)=_
 cases e:Nat.beq a i with
 |true=>exact absurd (Nat.eq_of_beq_eq_true e) h
 |false=>rfl
theorem wM {s:St} {e0:List (Nat×AV)} {m0:Mem} {n1 nt:Nat} (pl:List (Nat×Nat)) (h1:(pl.all fun p=>Nat.blt p.1 n1)=true:=by rfl) (h2:nodupB (pl.map (·.2))=true:=by rfl) (h3:(m0.all fun p=>(pl.map (·.1)).contains p.1)=true:=by rfl)
  (he:okW s pl e0:=by repeat (first|exact D2|refine Fv (Kt _ false) ?_|refine Fv (j8 rfl rfl) ?_|refine Fv (j8 (by first|omega|(simp;done)|(simp;omega)) rfl) ?_|refine Fv aT ?_|refine oR ?_|refine Fv (Xb (Ll _) (by simp [clean,Bk,Bz])) ?_))
  (hb:okB s pl m0:=by repeat (first|exact Dc|refine Az (Er rfl (by first|rfl|(simp (disch:=first|decide|assumption) only [lk,piH,piT]))) ?_|refine Az T7 ?_|refine Az (A8 (by first|rfl|simp [clean,Bk,Bz]) (by first|rfl|(simp (disch:=first|decide|assumption) only [lk,piH,piT]))) ?_)):Md KK nt 0 s ⟨e0,m0,n1⟩:=Dd pl h1 h2 h3 he hb
abbrev E5 {ρ:Type} (t:ρ) (e:ρ→AV→Mem→Prop) (R:AV→Mem→Prop):Prop:=∀r:ρ,t=r→∀u m,e r u m→R u m
abbrev O8 {a ρ:Type} (t:a⊕ρ) (e:ρ→AV→Mem→Prop) (R:AV→Mem→Prop):Prop:=∀r:ρ,t=.inr r→∀u m,e r u m→R u m
abbrev HR2 {a b ρ:Type} (t:a⊕(b⊕ρ)) (e:ρ→AV→Mem→Prop) (R:AV→Mem→Prop):Prop:=∀r:ρ,t=.inr (.inr r)→∀u m,e r u m→R u m
abbrev HR3 {a b c ρ:Type} (t:a⊕(b⊕(c⊕ρ))) (e:ρ→AV→Mem→Prop) (R:AV→Mem→Prop):Prop:=∀r:ρ,t=.inr (.inr (.inr r))→∀u m,e r u m→R u m
abbrev K3 {σ ρ:Type} (nt:Nat) (t:σ⊕ρ) (h:σ→St) (N:St→Prop):Prop:=∀y:σ,t=.inl y→∀s',Md KK nt 0 s' (h y)→N s'
abbrev pY {σ a ρ:Type} (nt:Nat) (t:a⊕(σ⊕ρ)) (h:σ→St) (N:St→Prop):Prop:=∀y:σ,t=.inr (.inl y)→∀s',Md KK nt 0 s' (h y)→N s'
abbrev HN2 {σ a b ρ:Type} (nt:Nat) (t:a⊕(b⊕(σ⊕ρ))) (h:σ→St) (N:St→Prop):Prop:=∀y:σ,t=.inr (.inr (.inl y))→∀s',Md KK nt 0 s' (h y)→N s'
section
variable {σ a b c ρ:Type} {nt:Nat} {e:ρ→AV→Mem→Prop} {R:AV→Mem→Prop} {h:σ→St} {N:St→Prop} {G:Prop}
theorem Fb {t:ρ}:E5 t e (e t):=fun r k u m h=>by rw [k];exact h
theorem Nr {t:ρ} {u:a⊕ρ} (k:E5 t e R) (g:∀r,u=.inr r→r=t):O8 u e R:=fun r q=>k r (g _ q).symm
theorem gR1 {t:b⊕ρ} {u:a⊕(b⊕ρ)} (k:O8 t e R) (g:∀r,u=.inr r→r=t):HR2 u e R:=fun r q=>k r (g _ q).symm
theorem gR2 {t:c⊕(b⊕ρ)} {u:a⊕(c⊕(b⊕ρ))} (k:HR2 t e R) (g:∀r,u=.inr r→r=t):HR3 u e R:=fun r q=>k r (g _ q).symm
theorem gN0 {t:σ⊕ρ} {u:a⊕(σ⊕ρ)} (k:K3 nt t h N) (g:∀r,u=.inr r→r=t):pY nt u h N:=fun r q=>k r (g _ q).symm
theorem gN1 {t:b⊕(σ⊕ρ)} {u:a⊕(b⊕(σ⊕ρ))} (k:pY nt t h N) (g:∀r,u=.inr r→r=t):HN2 nt u h N:=fun r q=>k r (g _ q).symm
theorem Kc {S:σ→Option (σ⊕ρ)} {body:Code} {Q:A1→St→Prop} {B:σ→(St→Prop)→Prop} {t:ρ} {n:Nat} {x:σ} {s:St} (hx:Bw S n x=some t)
  (st:∀(y:σ) (u:σ⊕ρ) (N:St→Prop),(∀r,u=.inr r→r=t)→K3 nt u h N→S y=some u→B y N)
  (hw:Md KK nt 0 s (h x)) (eq:∀y N,W pg KK nt 0 body (h y) (Dw N Q)=B y N:=by intro y N;kernel_rfl):Ff pg KK nt 0 (.loop body) s Q:=
 Ff.zZ hw (Ff.loops Re (fun z:Nat×σ=>Bw S z.1 z.2=some t) (fun z=>h z.2) (fun z=>z.1) (by
  rintro ⟨k,y⟩ h'
  cases k with
  |zero=>exact (jE h').elim
  |succ k=>
   obtain ⟨u,h1,h2,h3⟩:=jR h'
   exact (eq y _).mpr (st y u _ (fun r e=>h3 r e) (fun y' e s' hw=>⟨(k,y'),h2 _ e,Nat.lt_succ_self k,hw⟩) h1)) (n,x) hx)
end
section
variable {ρ τ σ β:Type} {c:ρ→τ} {d:σ→τ} {x t:τ} {r:ρ} {R:AV→Mem→Prop} {m:Mem} {G X Y:Prop} {e:ρ→AV} {fn:FuncId} {args:List AV} {cc:Bool}
theorem ei {z:Int} {k:Int→Prop} (h:G→k z):G→Ag (.sc (.int .i64 z)) k:=imp C3 h
theorem eu {z:Int} {k:Int→Prop} (h:G→k z):G→D3 (.sc (.int .u64 z)) k:=imp vR h
theorem eb {z:Bool} {k:Bool→Prop} (h:G→k z):G→Ha (.sc (.bool z)) k:=imp Agp h
theorem ef {z:Nat} {k:Nat→Prop} (h:G→k z):G→Hc (.sc (.float .f64 z)) k:=imp Alp h
theorem es {z:ByteArray} {k:ByteArray→Prop} (h:G→k z):G→Cd (.sc (.string z)) k:=imp Acb h
theorem e2 {a0 a1:AV} {k:AV→AV→Prop} (h:G→k a0 a1):G→I3 (.agg [a0,a1]) k:=imp Ajy h
theorem e4 {a0 a1 a2 a3:AV} {k:AV→AV→AV→AV→Prop} (h:G→k a0 a1 a2 a3):G→Hz (.agg [a0,a1,a2,a3]) k:=imp Ah9 h
theorem e6 {a0 a1 a2 a3 a4 a5:AV} {k:AV→AV→AV→AV→AV→AV→Prop} (h:G→k a0 a1 a2 a3 a4 a5):G→Kx (.agg [a0,a1,a2,a3,a4,a5]) k:=imp Ai1 h
theorem et {a0 a1:AV} {k:AV→AV→Prop} (h:G→k a0 a1):G→E7 (.Bn [a0,a1]) k:=imp Ahx h
theorem cS {v:AV} {k:AV→Prop} (s:Ci pg KK.gl fn args v) (h:G→k v):G→A2 pg KK.gl m fn args k:=imp (Pp s) h
theorem bS {o:Option β} {f:β→Option τ} {v:β→AV} {k:AV→Prop} (s:∀{x},o=some x→Ci pg KK.gl fn args (v x)) (h:∀x,f x=some t→k (v x)):o.bind f=some t→A2 pg KK.gl m fn args k:=Ax fun x hx=>imp (Pp (s hx)) (h x)
theorem cb {a b:Option τ} (h1:a=some t→X) (h2:b=some t→Y):(bif cc then a else b)=some t→bif cc then X else Y:=Akl (fun _=>h1) fun _=>h2
theorem rt {v:Value} (hR:∀r,t=c r→∀u m,Dv (e r) u m→R u m) (hx:x=c r:=by rfl) (he:e r=.sc v:=by rfl):some x=some t→As R m [some (.sc v)]:=rt1 hR hx he
theorem cr {b:Option τ} {v:Value} (hR:∀r,t=c r→∀u m,Dv (e r) u m→R u m) (h2:b=some t→Y) (hx:x=c r:=by rfl) (he:e r=.sc v:=by rfl):(bif cc then some x else b)=some t→bif cc then As R m [some (.sc v)] else Y:=cb (rt1 hR hx he) h2
theorem rN {a b:AV} {r0 vs:List AV} {os:List (Option AV)} (ho:vP os=some (a::b::r0)) (hR:∀r,t=c r→∀u m,Dv (e r) u m→R u m) (hx:x=c r) (he:e r=.Bn vs) (hz:FzL 5 m (a::b::r0) vs):some x=some t→As R m os:=
 fun hg=>Arx ho (by have:=hR r ((Option.some.inj hg).symm.trans hx);rw [he] at this;exact this) hz
theorem r2 {v w:Value} (hR:∀r,t=c r→∀u m,Dv (e r) u m→R u m) (hx:x=c r:=by rfl) (he:e r=.Bn [.sc v,.sc w]:=by rfl):some x=some t→As R m [some (.sc v),some (.sc w)]:=rN rfl hR hx he (fS (fS Bs))
theorem nN {nt:Nat} {h:σ→St} {N:St→Prop} {y:σ} {s:St} (hN:∀y,t=d y→∀s',Md KK nt 0 s' (h y)→N s') (hx:x=d y) (hw:Md KK nt 0 s (h y)):some x=some t→N s:=fun hg=>hN _ ((Option.some.inj hg).symm.trans hx) _ hw
theorem hM {P:ρ→AV→Mem→Prop} {u:AV} (hR:∀r,t=c r→∀u m,P r u m→R u m) (hx:x=c r) (hp:P r u m):some x=some t→R u m:=fun hg=>hR _ ((Option.some.inj hg).symm.trans hx) _ _ hp
theorem sF {f:FuncId} {fn:Func} {v:AV} (hf:pg.funcs[f]?=some fn) (h:X) (hc:Bk args=true:=by first|rfl|simp [Bk,clean,Bz,En.Q0]) (hv:clean v=true:=by first|rfl|simp [Bk,clean,Bz,En.Q0]) (hb:fn.body=some ((fn.body).getD .skip):=by kernel_rfl) (hn:(fn.name== "runtime.NumGoroutine")=false:=by kernel_rfl)
  (hl:Nat.ble args.length fn.ntmps=true:=by kernel_rfl) (hX:W pg KK fn.ntmps 0 ((fn.body).getD .skip) ⟨Eu args 0,[],0⟩ (Cm pg fn (Dv v))=X:=by kernel_rfl):Ci pg KK.gl f args v:=Mr hc hv (Fe Re hf hb hn hl hX h)
end
end Go.Proofs.YtkdodbfnocdkdaaGreatDoor
