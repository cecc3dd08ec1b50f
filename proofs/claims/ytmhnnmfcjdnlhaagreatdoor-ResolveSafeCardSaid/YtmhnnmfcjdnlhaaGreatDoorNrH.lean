/- A part. -/
import Derived.Test.YtmhnnmfcjdnlhaaGreatDoorX1E3
set_option linter.unusedVariables false
set_option linter.unusedSimpArgs false
set_option maxRecDepth 100000
set_option maxHeartbeats 4000000
namespace Go.Proofs.YtmhnnmfcjdnlhaaGreatDoor
noncomputable def c81:Code:=((Tryz.f81).body).getD .skip
noncomputable def F81 (a0:Int) (a1:Int) (R:AV→Mem→Prop):Prop:=
bif (decide (a0<(0))) then (
Bo (Cs Tryz.prog (.unOp .neg 3 (.tmp 0)) 3 [(AV.sc (.int .i64 a0))] (Am []) 4) fun v0=>
Af v0 fun z1=>
Bd Tryz.prog KK.gl [] 81 [(AV.sc (.int .i64 z1)),(AV.sc (.int .i64 a1))] fun v2=>
Af v2 fun z3=>
Bo (Cs Tryz.prog (.unOp .neg 3 (.tmp 0)) 3 [(AV.sc (.int .i64 z3))] (Am []) 70) fun v4=>
Af v4 fun z5=>
A2 R [] [some (AV.sc (.int .i64 z5))]) else (
Bo (Cs Tryz.prog (.binOp .quo 3 (.tmp 0) (.tmp 1) 3) 3 [(AV.sc (.int .i64 (IntKind.wrap .i64 (a0+(IntKind.wrap .i64 (Int.tdiv a1 (2))))))),(AV.sc (.int .i64 a1))] (Am []) 8) fun v6=>
Af v6 fun z7=>
A2 R [] [some (AV.sc (.int .i64 z7))])
theorem Zb (a0:Int) (a1:Int) (R:AV→Mem→Prop) (h:F81 a0 a1 R):Own Tryz.prog KK.gl 81 [(AV.sc (.int .i64 a0)),(AV.sc (.int .i64 a1))] R:=Bk Ee Tryz.func81 (code:=c81) (by kernel_rfl) (by kernel_rfl) (by kernel_rfl) (X:=F81 a0 a1 R) (by kernel_rfl) h
theorem Xc (a0 a1:Int) (h0:¬a0<0) {t:Int} (R:AV→Mem→Prop) (hR:∀r:Int,t=r→∀u m,C2 (Aa r) u m→R u m):Px a0 a1=some t→F81 a0 a1 R:=by
 unfold Px F81
 rw [decide_eq_false h0,cond_false]
 refine At fun x h=> ?_
 refine imp (Cj (show _=some ((Aa (IntKind.wrap .i64 x)),[]) from (Nk h))) ?_
 refine imp Ai ?_
 exact fun hg=>Ut (hR _ (Option.some.inj hg).symm) (cD _ _)
theorem Yi {a0 a1:Int} (h0:¬a0<0) {t:Int} (h:Px a0 a1=some t):Dc Tryz.prog KK.gl 81 [(Aa a0),(Aa a1)] (Aa t):=
 A1 rfl rfl (Zb a0 a1 _ (Xc a0 a1 h0 (C2 (Aa t)) (fun r e u m h=>by rw [e];exact h) h))
theorem Yt (a0 a1:Int) (h0:a0<0) (h1:¬IntKind.wrap .i64 (0-a0)<0) {t:Int} (R:AV→Mem→Prop) (hR:∀r:Int,t=r→∀u m,C2 (Aa r) u m→R u m):((Px (IntKind.wrap .i64 (0-a0)) a1).bind fun z=>some (IntKind.wrap .i64 (0-z)))=some t→F81 a0 a1 R:=by
 unfold F81
 rw [decide_eq_true h0,cond_true]
 refine At fun x h=> ?_
 refine imp (Cj (show _=some ((Aa (IntKind.wrap .i64 (0-a0))),[]) from (by kernel_rfl))) ?_
 refine imp Ai ?_
 refine imp (An (Yi h1 h)) ?_
 refine imp Ai ?_
 refine imp (Cj (show _=some ((Aa (IntKind.wrap .i64 (0-x))),[]) from (by kernel_rfl))) ?_
 refine imp Ai ?_
 exact fun hg=>Ut (hR _ (Option.some.inj hg).symm) (cD _ _)
theorem Aei {n:Nat} {a0 a1:Int} {t:Ad9} (h:g81 n a0 a1=some t):Dc Tryz.prog KK.gl 81 [(Aa a0),(Aa a1)] (Aa t):=by
 unfold g81 at h
 by_cases h0:a0<0
 ·rw [decide_eq_true h0,cond_true] at h
  by_cases h1:IntKind.wrap .i64 (0-a0)<0
  ·rw [decide_eq_true h1] at h;cases h
  ·rw [decide_eq_false h1,cond_false] at h
   exact A1 rfl rfl (Zb a0 a1 _ (Yt a0 a1 h0 h1 (C2 (Aa t)) (fun r e u m h=>by rw [e];exact h) h))
 ·rw [decide_eq_false h0,cond_false] at h
  exact Yi h0 h
end Go.Proofs.YtmhnnmfcjdnlhaaGreatDoor
