/- A part. -/
import Derived.Test.YtkdodbfnocdkdaaGreatDoorX1Ea
set_option linter.unusedVariables false
set_option linter.unusedSimpArgs false
set_option maxRecDepth 100000
set_option maxHeartbeats 4000000
namespace Go.Proofs.YtkdodbfnocdkdaaGreatDoor
noncomputable def Ar3:Code:=((Tryz.f260).body).getD .skip
noncomputable def o6 (a0:Int) (a1:Int) (R:AV→Mem→Prop):Prop:=
bif (decide (a0<(0))) then (
A4 (Ce Tryz.prog (.unOp .neg 3 (.tmp 0)) 3 [(AV.sc (.int .i64 a0))] (Al []) 4) fun v0=>
Ag v0 fun z1=>
A2 Tryz.prog KK.gl [] 260 [(AV.sc (.int .i64 z1)),(AV.sc (.int .i64 a1))] fun v2=>
Ag v2 fun z3=>
A4 (Ce Tryz.prog (.unOp .neg 3 (.tmp 0)) 3 [(AV.sc (.int .i64 z3))] (Al []) 70) fun v4=>
Ag v4 fun z5=>
As R [] [some (AV.sc (.int .i64 z5))]) else (
A4 (Ce Tryz.prog (.binOp .quo 3 (.tmp 0) (.tmp 1) 3) 3 [(AV.sc (.int .i64 (IntKind.wrap .i64 (a0+(IntKind.wrap .i64 (Int.tdiv a1 (2))))))),(AV.sc (.int .i64 a1))] (Al []) 8) fun v6=>
Ag v6 fun z7=>
As R [] [some (AV.sc (.int .i64 z7))])
theorem eO (a0:Int) (a1:Int) (R:AV→Mem→Prop) (h:o6 a0 a1 R):Own Tryz.prog KK.gl 260 [(AV.sc (.int .i64 a0)),(AV.sc (.int .i64 a1))] R:=Fe Re Tryz.func260 (code:=Ar3) (by kernel_rfl) (by kernel_rfl) (by kernel_rfl) (X:=o6 a0 a1 R) (by kernel_rfl) h
theorem fA (a0 a1:Int) (h0:¬a0<0) {t:Int} (R:AV→Mem→Prop) (hR:∀r:Int,t=r→∀u m,Dv (Aa r) u m→R u m):S8 a0 a1=some t→o6 a0 a1 R:=by
 unfold S8 o6
 rw [decide_eq_false h0,cond_false]
 refine Ax fun x h=> ?_
 refine imp (B6 (show _=some ((Aa (IntKind.wrap .i64 x)),[]) from (Ql h))) ?_
 refine imp C3 ?_
 exact fun hg=>Zd (hR _ (Option.some.inj hg).symm) (kP _ _)
theorem cX {a0 a1:Int} (h0:¬a0<0) {t:Int} (h:S8 a0 a1=some t):Ci Tryz.prog KK.gl 260 [(Aa a0),(Aa a1)] (Aa t):=
 Mr rfl rfl (eO a0 a1 _ (fA a0 a1 h0 (Dv (Aa t)) (fun r e u m h=>by rw [e];exact h) h))
theorem dV (a0 a1:Int) (h0:a0<0) (h1:¬IntKind.wrap .i64 (0-a0)<0) {t:Int} (R:AV→Mem→Prop) (hR:∀r:Int,t=r→∀u m,Dv (Aa r) u m→R u m):((S8 (IntKind.wrap .i64 (0-a0)) a1).bind fun z=>some (IntKind.wrap .i64 (0-z)))=some t→o6 a0 a1 R:=by
 unfold o6
 rw [decide_eq_true h0,cond_true]
 refine Ax fun x h=> ?_
 refine imp (B6 (show _=some ((Aa (IntKind.wrap .i64 (0-a0))),[]) from (by kernel_rfl))) ?_
 refine imp C3 ?_
 refine imp (Pp (cX h1 h)) ?_
 refine imp C3 ?_
 refine imp (B6 (show _=some ((Aa (IntKind.wrap .i64 (0-x))),[]) from (by kernel_rfl))) ?_
 refine imp C3 ?_
 exact fun hg=>Zd (hR _ (Option.some.inj hg).symm) (kP _ _)
theorem Af1 {n:Nat} {a0 a1:Int} {t:Afk} (h:iT n a0 a1=some t):Ci Tryz.prog KK.gl 260 [(Aa a0),(Aa a1)] (Aa t):=by
 unfold iT at h
 by_cases h0:a0<0
 ·rw [decide_eq_true h0,cond_true] at h
  by_cases h1:IntKind.wrap .i64 (0-a0)<0
  ·rw [decide_eq_true h1] at h;cases h
  ·rw [decide_eq_false h1,cond_false] at h
   exact Mr rfl rfl (eO a0 a1 _ (dV a0 a1 h0 h1 (Dv (Aa t)) (fun r e u m h=>by rw [e];exact h) h))
 ·rw [decide_eq_false h0,cond_false] at h
  exact cX h0 h
end Go.Proofs.YtkdodbfnocdkdaaGreatDoor
