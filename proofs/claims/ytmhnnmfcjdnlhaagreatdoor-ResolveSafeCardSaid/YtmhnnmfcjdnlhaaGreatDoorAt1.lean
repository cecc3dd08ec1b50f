/- A part. -/
import Derived.Test.YtmhnnmfcjdnlhaaGreatDoorFl4
import Derived.Test.YtmhnnmfcjdnlhaaGreatDoorX1G
set_option linter.unusedVariables false
set_option linter.unusedSimpArgs false
set_option maxHeartbeats 4000000
namespace Go.Proofs.YtmhnnmfcjdnlhaaGreatDoor
def cxp (w:Nat):Int:=(((w % 9223372036854775808+4503599627370495) / 4503599627370496:Nat):Int)-1023
theorem Du (w:Nat) (k:Int) (h:(Nat.blt w 18446744073709551616 && decide (-1022≤cxp w) && decide (cxp w≤k) && decide (k≤1023))=true):C3 w k:=by
 simp only [Bool.and_eq_true,decide_eq_true_eq,Nat.blt_eq] at h
 obtain ⟨⟨⟨h1,h2⟩,h3⟩,h4⟩:=h
 unfold cxp at h2 h3
 exact ⟨h1,by omega,by omega,h4⟩
theorem O2 (n:Nat) {x:Nat} (h:C3 x 4):∃r,Yz n x=some r∧C3 r 43:=by
 unfold Yz
 obtain ⟨z,ez,fz,pz⟩:=Fg h h (by decide) (by decide)
 have pz:=pz Iff.rfl
 obtain ⟨x1,e1,f1,-⟩:=Fg (Du 13829429103926125972 0 (by decide+kernel)) fz (by decide) (by decide)
 obtain ⟨x2,e2,f2,-⟩:=Ep f1 (Du 13848613196940411002 5 (by decide+kernel)) (by decide)
 obtain ⟨x3,e3,f3,-⟩:=Fg f2 fz (by decide) (by decide)
 obtain ⟨x4,e4,f4,-⟩:=Ep f3 (Du 13858350711815275123 7 (by decide+kernel)) (by decide)
 obtain ⟨x5,e5,f5,-⟩:=Fg f4 fz (by decide) (by decide)
 obtain ⟨x6,e6,f6,-⟩:=Ep f5 (Du 13861719834326579749 7 (by decide+kernel)) (by decide)
 obtain ⟨x7,e7,f7,-⟩:=Fg f6 fz (by decide) (by decide)
 obtain ⟨x8,e8,f8,-⟩:=Ep f7 (Du 13857635882265799822 7 (by decide+kernel)) (by decide)
 obtain ⟨x9,e9,f9,-⟩:=Fg fz f8 (by decide) (by decide)
 obtain ⟨y0,d0,g0,p0⟩:=Ep fz (Du 4627690253511319612 5 (by decide+kernel)) (by decide)
 have p0:=p0 pz (by decide)
 obtain ⟨y1,d1,g1,p1⟩:=Fg g0 fz (by decide) (by decide)
 have p1:=p1 ⟨fun _=>pz,fun _=>p0⟩
 obtain ⟨y2,d2,g2,p2⟩:=Ep g1 (Du 4640010388282866213 8 (by decide+kernel)) (by decide)
 have p2:=p2 p1 (by decide)
 obtain ⟨y3,d3,g3,p3⟩:=Fg g2 fz (by decide) (by decide)
 have p3:=p3 ⟨fun _=>pz,fun _=>p2⟩
 obtain ⟨y4,d4,g4,p4⟩:=Ep g3 (Du 4646322940342877755 9 (by decide+kernel)) (by decide)
 have p4:=p4 p3 (by decide)
 obtain ⟨y5,d5,g5,p5⟩:=Fg g4 fz (by decide) (by decide)
 have p5:=p5 ⟨fun _=>pz,fun _=>p4⟩
 obtain ⟨y6,d6,g6,p6⟩:=Ep g5 (Du 4647246694406179306 9 (by decide+kernel)) (by decide)
 have p6:=p6 p5 (by decide)
 obtain ⟨y7,d7,g7,p7⟩:=Fg g6 fz (by decide) (by decide)
 have p7:=p7 ⟨fun _=>pz,fun _=>p6⟩
 obtain ⟨y8,d8,g8,p8,l8⟩:=cI g7 (Du 4641049159275471596 8 (by decide+kernel)) (by decide) p7 (by decide) (lo:=7) (by unfold iV;decide+kernel) (by decide)
 obtain ⟨t,m,j,q1,q2,q3,-⟩:=Kh g8 l8
 obtain ⟨u,eu,fu,-⟩:=L8 f9 q1 q2 q3 (by decide) (by decide)
 obtain ⟨v,ev,fv,-⟩:=Fg h fu (by decide) (by decide)
 obtain ⟨w,ew,fw,-⟩:=Ep fv h (by decide)
 rw [ez,Option.bind_some,e1,Option.bind_some,e2,Option.bind_some,e3,Option.bind_some,e4,Option.bind_some,e5,Option.bind_some,e6,Option.bind_some,e7,Option.bind_some,e8,Option.bind_some,e9,Option.bind_some,d0,Option.bind_some,d1,Option.bind_some,d2,Option.bind_some,d3,Option.bind_some,d4,Option.bind_some,d5,Option.bind_some,d6,Option.bind_some,d7,Option.bind_some,d8,Option.bind_some,eu,Option.bind_some,ev,Option.bind_some,ew,Option.bind_some]
 exact ⟨w,rfl,fw⟩
end Go.Proofs.YtmhnnmfcjdnlhaaGreatDoor
