/- Whatever positions are combined and split, all sectors keep exactly one position, and all flights are counted once: TopConfig returns true at every input, and its arguments read afterwards as before. Conditions: none. -/
import Derived.Test.YtmechmjjcgdpdaaGreatDoorX1E5
import Derived.Test.YtmechmjjcgdpdaaGreatDoorTcR
import Derived.Lay
import Derived.Test.YtmechmjjcgdpdaaGreatDoorTdG
import Derived.Test.YtmechmjjcgdpdaaGreatDoorTcJA
import Derived.Test.YtmechmjjcgdpdaaGreatDoorTcJB
import Derived.Test.YtmechmjjcgdpdaaGreatDoorTcJC
import Derived.LaidMore
import Derived.Stop.Joined
import Derived.SevenTiedAt
import Derived.Test.YtmechmjjcgdpdaaGreatDoorCards
import Derived.Test.YtmechmjjcgdpdaaGreatDoorTie
import Derived.Test.YtmechmjjcgdpdaaGreatDoorPi23
import Derived.WalkKit
import Derived.ProofKit
import Derived.OpenShut
import Derived.ShutString
import Derived.ChangeOld
import Derived.Below
import Derived.Lib.SmallJoins
namespace Go.Proofs.YtmechmjjcgdpdaaGreatDoor.liftTopConfig
open Go.Proofs.YtmechmjjcgdpdaaGreatDoor
open Go.ChangeShapes Go.WideShapes Go.ChangeAt Go.RowKit Go.Joins
open Go.ChangeMaps (open_string shut_string)
set_option linter.unusedVariables false
def Km (z:Int):Prop:= -9223372036854775808≤z∧z≤9223372036854775807
def Ah3 (s:ByteArray):Prop:=s.size≤maxLen
def Aqk (b:Bool):Prop:=True
def Nl {α:Type} (p:α→Prop) (l:List α):Prop:=l.length≤maxLen∧∀x∈l,p x
theorem Dg {W:World} {a b:Sh} {cs:List Value} (h:Reads W (.pair a b) cs):∃xs ys,cs=xs++ys∧Reads W a xs∧Reads W b ys:=by simpa only [Reads] using h
theorem Hb {W:World} {cs:List Value} (h:Reads W .unit cs):cs=[]:=by simpa only [Reads] using h
theorem Ex {W:World} {cs:List Value} (h:Reads W .int cs):∃n:Int,cs=[.int .i64 n]∧Km n:=by simp only [Reads] at h;exact h
theorem rM {W:World} {cs:List Value} (h:Reads W .str cs):∃s:ByteArray,cs=[.string s]∧Ah3 s:=by simp only [Reads] at h;exact h
theorem Vo {W:World} {e:Sh} {cs:List Value} (h:Reads W (.sl e) cs):∃a n c,cs=[.slice a n c]∧Reads W (.sl e) [.slice a n c]:=by
 have h':=h
 simp only [Reads] at h'
 obtain ⟨a,n,c,rfl,-⟩:=h'
 exact ⟨a,n,c,rfl,h⟩
def gM (x:TP):Prop:=Km x.X∧Km x.Y
theorem Akn {W:World} {a:Option Addr} {n c:Nat} (h:Reads W (.sl (.pair .int (.pair .int .unit))) [.slice a n c]):∃l:List TP,A9 (Ns W) (Ai TP.E l) (.slice a n c)∧Nl gM l:=
 Ih TP.E _ gM rfl (fun es _ h=>by
  obtain ⟨ux0,wx0,rfl,hx0,qx0⟩:=Dg h
  obtain ⟨x0,rfl,fx0⟩:=Ex hx0
  obtain ⟨ux1,wx1,rfl,hx1,qx1⟩:=Dg qx0
  obtain ⟨x1,rfl,fx1⟩:=Ex hx1
  obtain rfl:=Hb qx1
  exact ⟨⟨x0,x1⟩,(Eg rfl (Eg rfl .nil)),⟨fx0,fx1⟩⟩) h
def Md (x:Al):Prop:=(Nl gM) x.D0∧Km x.Hw∧Km x.D4
theorem eF {W:World} {a:Option Addr} {n c:Nat} (h:Reads W (.sl (.pair (.sl (.pair .int (.pair .int .unit))) (.pair .int (.pair .int .unit)))) [.slice a n c]):∃l:List Al,A9 (Ns W) (Ai Al.E l) (.slice a n c)∧Nl Md l:=
 Ih Al.E _ Md rfl (fun es _ h=>by
  obtain ⟨ux0,wx0,rfl,hx0,qx0⟩:=Dg h
  obtain ⟨ax0,nx0,Ns,rfl,hx0⟩:=Vo hx0
  obtain ⟨x0,rx0,fx0⟩:=Akn hx0
  obtain ⟨ux1,wx1,rfl,hx1,qx1⟩:=Dg qx0
  obtain ⟨x1,rfl,fx1⟩:=Ex hx1
  obtain ⟨ux2,wx2,rfl,hx2,qx2⟩:=Dg qx1
  obtain ⟨x2,rfl,fx2⟩:=Ex hx2
  obtain rfl:=Hb qx2
  exact ⟨⟨x0,x1,x2⟩,(.cons rx0 (Eg rfl (Eg rfl .nil))),⟨fx0,fx1,fx2⟩⟩) h
def Sw (x:Au):Prop:=Ah3 x.Name∧(Nl Md) x.Room
theorem fJ {W:World} {a:Option Addr} {n c:Nat} (h:Reads W (.sl (.pair .str (.pair (.sl (.pair (.sl (.pair .int (.pair .int .unit))) (.pair .int (.pair .int .unit)))) .unit))) [.slice a n c]):∃l:List Au,A9 (Ns W) (Ai Au.E l) (.slice a n c)∧Nl Sw l:=
 Ih Au.E _ Sw rfl (fun es _ h=>by
  obtain ⟨ux0,wx0,rfl,hx0,qx0⟩:=Dg h
  obtain ⟨x0,rfl,fx0⟩:=rM hx0
  obtain ⟨ux1,wx1,rfl,hx1,qx1⟩:=Dg qx0
  obtain ⟨ax1,nx1,cx1,rfl,hx1⟩:=Vo hx1
  obtain ⟨x1,rx1,fx1⟩:=eF hx1
  obtain rfl:=Hb qx1
  exact ⟨⟨x0,x1⟩,(Eg rfl (.cons rx1 .nil)),⟨fx0,fx1⟩⟩) h
def Hk (x:Ad):Prop:=Km x.Am∧Km x.A5∧Km x.A6∧Km x.Ar∧Km x.Bl∧Km x.Co
theorem V7 {W:World} {a:Option Addr} {n c:Nat} (h:Reads W (.sl (.pair (.pair .int (.pair (.pair .int (.pair .int .unit)) (.pair .int .unit))) (.pair .int (.pair .int .unit)))) [.slice a n c]):∃l:List Ad,A9 (Ns W) (Ai Ad.E l) (.slice a n c)∧Nl Hk l:=
 Ih Ad.E _ Hk rfl (fun es _ h=>by
  obtain ⟨ux0,wx0,rfl,hx0,qx0⟩:=Dg h
  obtain ⟨ux00,wx00,rfl,hx00,qx00⟩:=Dg hx0
  obtain ⟨x00,rfl,fx00⟩:=Ex hx00
  obtain ⟨ux01,wx01,rfl,hx01,qx01⟩:=Dg qx00
  obtain ⟨ux010,wx010,rfl,hx010,qx010⟩:=Dg hx01
  obtain ⟨x010,rfl,fx010⟩:=Ex hx010
  obtain ⟨ux011,wx011,rfl,hx011,qx011⟩:=Dg qx010
  obtain ⟨x011,rfl,fx011⟩:=Ex hx011
  obtain rfl:=Hb qx011
  obtain ⟨ux02,wx02,rfl,hx02,qx02⟩:=Dg qx01
  obtain ⟨x02,rfl,fx02⟩:=Ex hx02
  obtain rfl:=Hb qx02
  obtain ⟨ux1,wx1,rfl,hx1,qx1⟩:=Dg qx0
  obtain ⟨x1,rfl,fx1⟩:=Ex hx1
  obtain ⟨ux2,wx2,rfl,hx2,qx2⟩:=Dg qx1
  obtain ⟨x2,rfl,fx2⟩:=Ex hx2
  obtain rfl:=Hb qx2
  exact ⟨⟨x00,x010,x011,x02,x1,x2⟩,(Eg rfl (Eg rfl (Eg rfl (Eg rfl (Eg rfl (Eg rfl .nil)))))),⟨fx00,fx010,fx011,fx02,fx1,fx2⟩⟩) h
theorem V3 {W:World} {a:Option Addr} {n c:Nat} (h:Reads W (.sl (.sl (.pair (.pair .int (.pair (.pair .int (.pair .int .unit)) (.pair .int .unit))) (.pair .int (.pair .int .unit))))) [.slice a n c]):∃l:List (List Ad),A9 (Ns W) (Ai (Ci Ad.E) l) (.slice a n c)∧Nl (Nl Hk) l:=
 Ih (Ci Ad.E) _ (Nl Hk) rfl (fun es _ h=>by
  obtain ⟨ax,nx,cx,rfl,h⟩:=Vo h
  obtain ⟨x,rx,fx⟩:=V7 h
  exact ⟨x,(.cons rx .nil),fx⟩) h
theorem Agc {W:World} {a:Option Addr} {n c:Nat} (h:Reads W (.sl .int) [.slice a n c]):∃l:List Int,A9 (Ns W) (Ai Ce l) (.slice a n c)∧Nl Km l:=
 Ih Ce _ Km rfl (fun es _ h=>by
  obtain ⟨x,rfl,fx⟩:=Ex h
  exact ⟨x,(Eg rfl .nil),fx⟩) h
theorem own:ownKnob Tryz.prog.godebug=none:=by kernel_rfl
theorem laidOut:laidOutB Tryz.prog=true:=by kernel_rfl
set_option maxRecDepth 100000
theorem Aao (os:Os) (args:Array Value):laidMetH Tryz.prog Su ((World.laidAll Tryz.prog os Su).forCall (fun _ _=>0) ⟨#[],args,[]⟩).memory:=by
 rw [MakeChecks.laidMetH_plain _ _ _ (by kernel_rfl)]
 exact laidMet_laidAll _ (by kernel_rfl) (by kernel_rfl)
theorem lifted (os:Os) (started:os.Started) (H:Type) (enc:TypeId×Value→H):
  ReturnsInHanded {} Tryz.checked os 3 .any (fun w args=>(Rows.topConfigSpec.pre enc Tryz.prog Tryz.f3 [] false w args∧laidMetH Tryz.prog Su w)∧sizedMet enc Tryz.prog Tryz.f3 (OpenSpec.ofChange Rows.topConfigSpec) false w args) (Rows.topConfigSpec.post enc Tryz.prog Tryz.f3 false true false false):=by
 refine returnsInHanded_of_change_and (C:=Tryz.checked) (X:=fun w _=>laidMetH Tryz.prog Su w) (fun _ _ _ hh h=>h.of_heap hh) own started (by kernel_rfl) Tryz.func3
  (ChangeSpec.witness_shaped (enc:=enc) (C:=Tryz.checked) (os:=os) (X:=fun w _=>laidMetH Tryz.prog Su w) false (World.laidAll Tryz.prog os Su) #[.slice none 0 0,.slice none 0 0,.int .i64 0,.slice none 0 0] 8 (World.laidAll_os _ _ _) (World.shaped_of_ZipB (by kernel_rfl) (by kernel_rfl)) (by kernel_rfl) (by kernel_rfl) (by kernel_rfl) (Aao os _)) ?_
 intro W base args ds gs before hval0 hW _ _ hL _
 have hval:∀(j:Nat) t v,Tryz.f3.params[j]?=some t→args[j]?=some v→Value.okWide Tryz.prog W .any base t v:=hval0
 have hW':=hW
 obtain ⟨p,q,hA0,hV,rfl,hfz,hnd⟩:=hW
 have hA:DataW.TrodAll enc Tryz.prog W 0 (fun _=>true) true Tryz.f3.params.toList args.toList ds p:=hA0
 rw [Tryz.params3] at hA hval
 obtain ⟨v0,vs0,d0,ds0,p0,q0,hargs,rfl,rfl,k0,r0⟩:=trodAll_cons hA
 obtain ⟨v1,vs1,d1,ds1,p1,q1,rfl,rfl,rfl,k1,r1⟩:=trodAll_cons r0
 obtain ⟨v2,vs2,d2,ds2,p2,q2,rfl,rfl,rfl,k2,r2⟩:=trodAll_cons r1
 obtain ⟨v3,vs3,d3,ds3,p3,q3,rfl,rfl,rfl,k3,r3⟩:=trodAll_cons r2
 obtain ⟨rfl,rfl,rfl⟩:=trodAll_nil r3
 obtain rfl:args=#[v0,v1,v2,v3]:=by cases args;simp_all
 obtain ⟨rfl,rfl⟩:=trodVars_none hV
 have lt0:∀x∈p0,x.block<W.heap.size:=by obtain ⟨m,hm⟩:=k0;exact DataW.trod_lt m _ _ _ hm
 have o0:=hval 0 22 v0 rfl rfl
 have lt1:∀x∈p1,x.block<W.heap.size:=by obtain ⟨m,hm⟩:=k1;exact DataW.trod_lt m _ _ _ hm
 have o1:=hval 1 23 v1 rfl rfl
 have lt2:∀x∈p2,x.block<W.heap.size:=by obtain ⟨m,hm⟩:=k2;exact DataW.trod_lt m _ _ _ hm
 have o2:=hval 2 3 v2 rfl rfl
 have lt3:∀x∈p3,x.block<W.heap.size:=by obtain ⟨m,hm⟩:=k3;exact DataW.trod_lt m _ _ _ hm
 have o3:=hval 3 24 v3 rfl rfl
 obtain ⟨a0,n0,c0,rfl⟩:=okWide_slice Tryz.underlying22 o0
 obtain ⟨l0,rr0,f0⟩:=fJ (Rw (.sl (.pair .str (.pair (.sl (.pair (.sl (.pair .int (.pair .int .unit))) (.pair .int (.pair .int .unit)))) .unit))) (by kernel_rfl) k0)
 obtain ⟨a1,n1,c1,rfl⟩:=okWide_slice Tryz.underlying23 o1
 obtain ⟨l1,rr1,f1⟩:=V3 (Rw (.sl (.sl (.pair (.pair .int (.pair (.pair .int (.pair .int .unit)) (.pair .int .unit))) (.pair .int (.pair .int .unit))))) (by kernel_rfl) k1)
 obtain ⟨l2,rfl,-,-,f2⟩:=open_int Tryz.underlying3 o2 k2
 obtain ⟨a3,n3,c3,rfl⟩:=okWide_slice Tryz.underlying24 o3
 obtain ⟨l3,rr3,f3⟩:=Agc (Rw (.sl .int) (by kernel_rfl) k3)
 clear hA0 hval0
 refine (We (sg3 (kH l0 l1 l2 l3)) (Ae3 hL) (.cons rr0 (.cons rr1 (Eg rfl (.cons rr3 .nil))))).mono fun e W' ⟨he,bel⟩=> ?_
 subst he
 exact ⟨_,rfl,_,_,_,[],_,[],hW',trodAll_mk1 (shut_bool Tryz.underlying4 _),(trodAll_cons_mk (Below.trod laidOut (by kernel_rfl) (of_decide_eq_true (by kernel_rfl)) k0 bel lt0) (trodAll_cons_mk (Below.trod laidOut (by kernel_rfl) (of_decide_eq_true (by kernel_rfl)) k1 bel lt1) (trodAll_cons_mk (Below.trod laidOut (by kernel_rfl) (of_decide_eq_true (by kernel_rfl)) k2 bel lt2) (trodAll_cons_mk (Below.trod laidOut (by kernel_rfl) (of_decide_eq_true (by kernel_rfl)) k3 bel lt3) trodAll_mk0)))),rfl,bel.frame _,fun h=>by cases h⟩
set_option maxRecDepth 100000 in
theorem Aik:joinedFacts Tryz.prog 3 Tryz.f3 Rows.topConfigSpec Rows.topConfigRow=true:=by
 unfold joinedFacts
 simp only [Bool.and_eq_true]
 exact ⟨⟨⟨⟨⟨⟨⟨⟨⟨⟨⟨⟨⟨⟨⟨⟨⟨⟨⟨⟨⟨⟨⟨⟨⟨⟨⟨⟨⟨⟨⟨(by kernel_rfl),Aig⟩,Af4⟩,(by kernel_rfl)⟩,(by kernel_rfl)⟩,(by kernel_rfl)⟩,(by kernel_rfl)⟩,(by kernel_rfl)⟩,(by kernel_rfl)⟩,tE⟩,Anw⟩,Al5⟩,Afr⟩,(by kernel_rfl)⟩,(by kernel_rfl)⟩,(by kernel_rfl)⟩,(by kernel_rfl)⟩,(by kernel_rfl)⟩,(by kernel_rfl)⟩,(by kernel_rfl)⟩,(by kernel_rfl)⟩,(by kernel_rfl)⟩,Ajn⟩,(by kernel_rfl)⟩,Af0⟩,Agd⟩,(by kernel_rfl)⟩,(by kernel_rfl)⟩,(by kernel_rfl)⟩,(by kernel_rfl)⟩,(by kernel_rfl)⟩,(by kernel_rfl)⟩
theorem over:Rows.topConfigRow.holds Tryz.pinned (OpenSpec.ofChange Rows.topConfigSpec):=
 OpenClaim.holds_of_wide 3 Tryz.f3 rfl rfl rfl rfl rfl rfl rfl ⟨rfl,rfl,rfl,rfl,rfl⟩ rfl rfl rfl rfl rfl (by kernel_rfl) Tryz.func3 Aik
  (of_decide_eq_true (by kernel_rfl)) (by unfold Func.isWrapper;first|(rw [if_pos (by decide+kernel)];kernel_rfl)|(rw [if_neg (by decide+kernel)];exact ⟨rfl,rfl⟩))
  (fun os started H enc _=>lifted os started H enc)
end Go.Proofs.YtmechmjjcgdpdaaGreatDoor.liftTopConfig
namespace Go.Proofs.YtmechmjjcgdpdaaGreatDoor
theorem topConfig_card:Claim7.holds Tryz.pinned (.plain (OpenSpec.ofChange Rows.topConfigSpec)) Rows.topConfigCard:=
 Claim7.holds_tied_plain_at .later [] [.data,.data,.data,.data,.data,.data,.data,.sentinel,.sentinel,.widerDeep,.data,.pinned] true (true, "a0dd1727ce5603e5756632af11a51758ba03df20a96017c1739735b224cc639c") true
  liftTopConfig.over (fun _ h=>by cases h) (by kernel_rfl) (fun _ h=>by cases h) topConfig_row_tie rfl ⟨rfl,rfl⟩ (by kernel_rfl) rfl
  (fun f fn hf hfn=>by
   obtain rfl:f=3:=Option.some.inj ((show Tryz.prog.funcNamed "skyway/skywaytop.TopConfig" =some 3 by kernel_rfl).symm.trans hf)|>.symm
   obtain rfl:fn=Tryz.f3:=(Option.some.inj (Tryz.func3.symm.trans hfn)).symm
   exact ⟨Ab6,fun j t ht=>by
    rw [Tryz.params3] at ht
    have hm:t∈([22,23,3,24]:List Nat):=by simpa using Array.mem_of_getElem? ht
    have hall:(([22,23,3,24]:List Nat).all fun u=> !Tryz.prog.wantsStandIn u)=true:=by kernel_rfl
    exact (show Tryz.prog.wantsStandIn t=false by simpa using List.all_eq_true.1 hall t hm)⟩)
  Akg
/-- Whatever positions are combined and split, all sectors keep exactly one position, and all flights are counted once: TopConfig returns true at every input, and its arguments read afterwards as before. Conditions: none. -/
theorem topConfig_holds:Rows.TopConfigCardSaid:=topConfig_card
#print axioms topConfig_holds
end Go.Proofs.YtmechmjjcgdpdaaGreatDoor
