/- A part. -/
import Derived.Test.YtmhnnmfcjdnlhaaGreatDoorRpF
set_option linter.unusedVariables false
set_option maxRecDepth 100000
namespace Go.Proofs.YtmhnnmfcjdnlhaaGreatDoor
def KR:Jz:=⟨fun f=>f==13,KF.gl⟩
theorem aD:Ry Tryz.prog KR sp0 300 4=some true:=by decide+kernel
theorem sg4 {n:Nat} {t:ρ4} (h:g4 n=some t):Dc Tryz.prog KK.gl 4 [] (Ah t):=by
 cases h
 exact Sk (K:=KR) Ee zP (k:=300) aD
end Go.Proofs.YtmhnnmfcjdnlhaaGreatDoor
