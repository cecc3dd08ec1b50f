/- A part. -/
import Derived.Test.YtkdodbfnocdkdaaGreatDoorPL
set_option linter.unusedVariables false
namespace Go.Proofs.YtkdodbfnocdkdaaGreatDoor
noncomputable abbrev Ex (P:Program) (o:BinOp) (ty:TypeId) (a b:Nat) (n:Nat) (R:Nat→Prop):Prop:=A4 (Ce P (.binOp o ty (.tmp 0) (.tmp 1) ty) ty [Ck a,Ck b] (Al []) n) fun v=>Hc v R
noncomputable abbrev bQ (P:Program) (o:BinOp) (ty tb:TypeId) (a b:Nat) (n:Nat) (R:Bool→Prop):Prop:=A4 (Ce P (.binOp o ty (.tmp 0) (.tmp 1) ty) tb [Ck a,Ck b] (Al []) n) fun v=>Ha v R
noncomputable abbrev V7 (P:Program) (ty:TypeId) (a n:Nat) (R:Nat→Prop):Prop:=A4 (Ce P (.unOp .neg ty (.tmp 0)) ty [Ck a] (Al []) n) fun v=>Hc v R
noncomputable abbrev pX (len sz:Nat) (g:AV) (i:Int) (R:Nat→Prop):Prop:=A4 (Mg len sz g (Aa i)) fun v=>A4 (Ek (Al []) v) fun w=>Hc w R
theorem Z3 {R:AV→Mem→Prop} {m:Mem} {os:List (Option AV)} {v:AV} (h:yW (vP os)=some v) (hp:R v m):As R m os:=by
 unfold As;rw [h];exact hp
section
variable {P:Program} {ty tb:TypeId} {a b n:Nat} {look:Nat→Option Be} {ρ:Type} {t:ρ} {f:Nat→Option ρ} {R:Nat→Prop} {B:Bool→Prop} {G:Prop}
theorem iq {r:Iy} {k:AV→Prop} (v:AV) (h:r=some (v,[])) (h2:G→k v):G→A4 r k:=imp (B6 h) h2
theorem Co (h:∀x,f x=some t→R x):(Cp a b).bind f=some t→A4 (Ce P (.binOp .mul ty (.tmp 0) (.tmp 1) ty) ty [Ck a,Ck b] look n) (fun v=>Hc v R):=Ax fun x hx=>imp (B6 (v:=Ck x) (k:=fun v=>Hc v R) (Aau hx)) (h x)
theorem D9 (h:∀x,f x=some t→R x):(D6 a b).bind f=some t→A4 (Ce P (.binOp .add ty (.tmp 0) (.tmp 1) ty) ty [Ck a,Ck b] look n) (fun v=>Hc v R):=Ax fun x hx=>imp (B6 (v:=Ck x) (k:=fun v=>Hc v R) (qZ hx)) (h x)
theorem Hf (h:∀x,f x=some t→R x):(F1 a b).bind f=some t→A4 (Ce P (.binOp .sub ty (.tmp 0) (.tmp 1) ty) ty [Ck a,Ck b] look n) (fun v=>Hc v R):=Ax fun x hx=>imp (B6 (v:=Ck x) (k:=fun v=>Hc v R) (rQ hx)) (h x)
theorem P2 (h:∀x,f x=some t→R x):(Jy a b).bind f=some t→A4 (Ce P (.binOp .quo ty (.tmp 0) (.tmp 1) ty) ty [Ck a,Ck b] look n) (fun v=>Hc v R):=Ax fun x hx=>imp (B6 (v:=Ck x) (k:=fun v=>Hc v R) (zM hx)) (h x)
theorem Hg (h:G→R (I0 a)):G→A4 (Ce P (.unOp .neg ty (.tmp 0)) ty [Ck a] look n) (fun v=>Hc v R):=imp (B6 (v:=Ck (I0 a)) (k:=fun v=>Hc v R) (wX a)) h
theorem aP (h:G→B (nE a b)):G→A4 (Ce P (.binOp .eql ty (.tmp 0) (.tmp 1) ty) tb [Ck a,Ck b] look n) (fun v=>Ha v B):=imp (B6 (v:=Ai (nE a b)) (k:=fun v=>Ha v B) (sU a b)) h
theorem Aif (h:G→B (fNe a b)):G→A4 (Ce P (.binOp .neq ty (.tmp 0) (.tmp 1) ty) tb [Ck a,Ck b] look n) (fun v=>Ha v B):=imp (B6 (v:=Ai (fNe a b)) (k:=fun v=>Ha v B) (vX a b)) h
theorem uY (h:G→B (fLt a b)):G→A4 (Ce P (.binOp .lss ty (.tmp 0) (.tmp 1) ty) tb [Ck a,Ck b] look n) (fun v=>Ha v B):=imp (B6 (v:=Ai (fLt a b)) (k:=fun v=>Ha v B) (Aan a b)) h
theorem yZ (h:G→B (fLe a b)):G→A4 (Ce P (.binOp .leq ty (.tmp 0) (.tmp 1) ty) tb [Ck a,Ck b] look n) (fun v=>Ha v B):=imp (B6 (v:=Ai (fLe a b)) (k:=fun v=>Ha v B) (yO a b)) h
theorem Ui (h:G→B (aO a b)):G→A4 (Ce P (.binOp .gtr ty (.tmp 0) (.tmp 1) ty) tb [Ck a,Ck b] look n) (fun v=>Ha v B):=imp (B6 (v:=Ai (aO a b)) (k:=fun v=>Ha v B) (uW a b)) h
theorem gU (h:G→B (fGe a b)):G→A4 (Ce P (.binOp .geq ty (.tmp 0) (.tmp 1) ty) tb [Ck a,Ck b] look n) (fun v=>Ha v B):=imp (B6 (v:=Ai (fGe a b)) (k:=fun v=>Ha v B) (xR a b)) h
theorem Mc {len sz:Nat} {g p:AV} {i:Int} (x:Nat) (h1:Mg len sz g (Aa i)=some (p,[])) (h2:Ek look p=some (Ck x,[])) (h:G→R x):G→A4 (Mg len sz g (Aa i)) (fun v=>A4 (Ek look v) fun w=>Hc w R):=imp (B6 (v:=p) (k:=fun v=>A4 (Ek look v) fun w=>Hc w R) h1) (imp (B6 (v:=Ck x) (k:=fun w=>Hc w R) h2) h)
end
end Go.Proofs.YtkdodbfnocdkdaaGreatDoor
