/- A part. -/
import Derived.Test.YtmhnnmfcjdnlhaaGreatDoorPL
set_option linter.unusedVariables false
namespace Go.Proofs.YtmhnnmfcjdnlhaaGreatDoor
noncomputable abbrev A8 (P:Program) (o:BinOp) (ty:TypeId) (a b:Nat) (n:Nat) (R:Nat→Prop):Prop:=Bo (Cs P (.binOp o ty (.tmp 0) (.tmp 1) ty) ty [Ci a,Ci b] (Am []) n) fun v=>Gv v R
noncomputable abbrev Xz (P:Program) (o:BinOp) (ty tb:TypeId) (a b:Nat) (n:Nat) (R:Bool→Prop):Prop:=Bo (Cs P (.binOp o ty (.tmp 0) (.tmp 1) ty) tb [Ci a,Ci b] (Am []) n) fun v=>Hr v R
noncomputable abbrev Sq (P:Program) (ty:TypeId) (a n:Nat) (R:Nat→Prop):Prop:=Bo (Cs P (.unOp .neg ty (.tmp 0)) ty [Ci a] (Am []) n) fun v=>Gv v R
noncomputable abbrev Cu (len sz:Nat) (g:AV) (i:Int) (R:Nat→Prop):Prop:=Bo (aM len sz g (Aa i)) fun v=>Bo (Fm (Am []) v) fun w=>Gv w R
theorem Vz {R:AV→Mem→Prop} {m:Mem} {os:List (Option AV)} {v:AV} (h:kU (uO os)=some v) (hp:R v m):A2 R m os:=by
 unfold A2;rw [h];exact hp
section
variable {P:Program} {ty tb:TypeId} {a b n:Nat} {look:Nat→Option B5} {ρ:Type} {t:ρ} {f:Nat→Option ρ} {R:Nat→Prop} {B:Bool→Prop} {G:Prop}
theorem iq {r:Ie} {k:AV→Prop} (v:AV) (h:r=some (v,[])) (h2:G→k v):G→Bo r k:=imp (Cj h) h2
theorem Ax (h:∀x,f x=some t→R x):(A0 a b).bind f=some t→Bo (Cs P (.binOp .mul ty (.tmp 0) (.tmp 1) ty) ty [Ci a,Ci b] look n) (fun v=>Gv v R):=At fun x hx=>imp (Cj (v:=Ci x) (k:=fun v=>Gv v R) (nO hx)) (h x)
theorem A4 (h:∀x,f x=some t→R x):(Be a b).bind f=some t→Bo (Cs P (.binOp .add ty (.tmp 0) (.tmp 1) ty) ty [Ci a,Ci b] look n) (fun v=>Gv v R):=At fun x hx=>imp (Cj (v:=Ci x) (k:=fun v=>Gv v R) (kB hx)) (h x)
theorem D6 (h:∀x,f x=some t→R x):(D2 a b).bind f=some t→Bo (Cs P (.binOp .sub ty (.tmp 0) (.tmp 1) ty) ty [Ci a,Ci b] look n) (fun v=>Gv v R):=At fun x hx=>imp (Cj (v:=Ci x) (k:=fun v=>Gv v R) (nW hx)) (h x)
theorem M7 (h:∀x,f x=some t→R x):(I0 a b).bind f=some t→Bo (Cs P (.binOp .quo ty (.tmp 0) (.tmp 1) ty) ty [Ci a,Ci b] look n) (fun v=>Gv v R):=At fun x hx=>imp (Cj (v:=Ci x) (k:=fun v=>Gv v R) (kP hx)) (h x)
theorem Gw (h:G→R (Ic a)):G→Bo (Cs P (.unOp .neg ty (.tmp 0)) ty [Ci a] look n) (fun v=>Gv v R):=imp (Cj (v:=Ci (Ic a)) (k:=fun v=>Gv v R) (lL a)) h
theorem Wl (h:G→B (iN a b)):G→Bo (Cs P (.binOp .eql ty (.tmp 0) (.tmp 1) ty) tb [Ci a,Ci b] look n) (fun v=>Hr v B):=imp (Cj (v:=Ah (iN a b)) (k:=fun v=>Hr v B) (mV a b)) h
theorem Aax (h:G→B (fNe a b)):G→Bo (Cs P (.binOp .neq ty (.tmp 0) (.tmp 1) ty) tb [Ci a,Ci b] look n) (fun v=>Hr v B):=imp (Cj (v:=Ah (fNe a b)) (k:=fun v=>Hr v B) (kJ a b)) h
theorem jK (h:G→B (xR a b)):G→Bo (Cs P (.binOp .lss ty (.tmp 0) (.tmp 1) ty) tb [Ci a,Ci b] look n) (fun v=>Hr v B):=imp (Cj (v:=Ah (xR a b)) (k:=fun v=>Hr v B) (lD a b)) h
theorem nT (h:G→B (pU a b)):G→Bo (Cs P (.binOp .leq ty (.tmp 0) (.tmp 1) ty) tb [Ci a,Ci b] look n) (fun v=>Hr v B):=imp (Cj (v:=Ah (pU a b)) (k:=fun v=>Hr v B) (nA a b)) h
theorem R3 (h:G→B (Uz a b)):G→Bo (Cs P (.binOp .gtr ty (.tmp 0) (.tmp 1) ty) tb [Ci a,Ci b] look n) (fun v=>Hr v B):=imp (Cj (v:=Ah (Uz a b)) (k:=fun v=>Hr v B) (j7 a b)) h
theorem Zo (h:G→B (uX a b)):G→Bo (Cs P (.binOp .geq ty (.tmp 0) (.tmp 1) ty) tb [Ci a,Ci b] look n) (fun v=>Hr v B):=imp (Cj (v:=Ah (uX a b)) (k:=fun v=>Hr v B) (lH a b)) h
theorem Bq {len sz:Nat} {g p:AV} {i:Int} (x:Nat) (h1:aM len sz g (Aa i)=some (p,[])) (h2:Fm look p=some (Ci x,[])) (h:G→R x):G→Bo (aM len sz g (Aa i)) (fun v=>Bo (Fm look v) fun w=>Gv w R):=imp (Cj (v:=p) (k:=fun v=>Bo (Fm look v) fun w=>Gv w R) h1) (imp (Cj (v:=Ci x) (k:=fun w=>Gv w R) h2) h)
end
end Go.Proofs.YtmhnnmfcjdnlhaaGreatDoor
