/- A part. -/
import Derived.Test.YtmhnnmfcjdnlhaaGreatDoorX1E1
set_option linter.unusedVariables false
set_option linter.unusedSimpArgs false
set_option maxRecDepth 100000
set_option maxHeartbeats 4000000
namespace Go.Proofs.YtmhnnmfcjdnlhaaGreatDoor
theorem Aae (n a:Nat) (b:Int) {t:oZ} (R:AV→Mem→Prop) (hR:∀r:oZ,t=r→∀u m,C2 ((Ah r)) u m→R u m):fV n a b=some t→F85 a b R:=by
 unfold fV F85
 refine Aq (fun _=> ?_) (fun _=> ?_)
 ·refine At fun d c=> ?_
  refine imp (An (Afg c)) ?_
  refine imp D1 ?_
  refine R3 ?_
  exact C9 hR rfl rfl
 ·refine Aq (fun _=> ?_) (fun _=> ?_)
  ·refine Gw ?_
   refine R3 ?_
   exact C9 hR rfl rfl
  ·refine R3 ?_
   exact C9 hR rfl rfl
theorem gX {n:Nat} {a:Nat} {b:Int} {t:oZ} (h:fV n a b=some t):Dc pg KK.gl 85 [Ci a,Aa b] ((Ah t)):=
 A1 (by first|rfl|simp [Av,clean,Al,En.Di]) (by first|rfl|simp [Av,clean,Al,En.Di]) (vK a b _ (Aae n a b (C2 ((Ah t))) (fun r e u m h=>by rw [e];exact h) h))
theorem Abo (n:Nat) {t:rP} (R:AV→Mem→Prop) (hR:∀r:rP,t=r→∀u m,C2 ((Ci r)) u m→R u m):g87 n=some t→F87 R:=by
 unfold g87 F87
 refine imp (E5 (F2 _)) ?_
 refine imp D1 ?_
 exact C9 hR rfl rfl
theorem Aam {n:Nat} {t:rP} (h:g87 n=some t):Dc pg KK.gl 87 [] ((Ci t)):=
 A1 (by first|rfl|simp [Av,clean,Al,En.Di]) (by first|rfl|simp [Av,clean,Al,En.Di]) (qX _ (Abo n (C2 ((Ci t))) (fun r e u m h=>by rw [e];exact h) h))
end Go.Proofs.YtmhnnmfcjdnlhaaGreatDoor
