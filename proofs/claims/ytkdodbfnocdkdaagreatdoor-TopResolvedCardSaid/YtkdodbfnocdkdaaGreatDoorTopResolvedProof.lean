/- The best candidate, said, read back and heard, leaves the separations of all other flights as they were: TopResolved returns true at every input, and its arguments read afterwards as before. Conditions: none. -/
import Derived.Test.YtkdodbfnocdkdaaGreatDoorX1E11
import Derived.Test.YtkdodbfnocdkdaaGreatDoorRzM
import Derived.Lay
import Derived.Test.YtkdodbfnocdkdaaGreatDoorTrX
import Derived.Test.YtkdodbfnocdkdaaGreatDoorTrJA
import Derived.Test.YtkdodbfnocdkdaaGreatDoorTrJB
import Derived.Test.YtkdodbfnocdkdaaGreatDoorTrJC
import Derived.LaidMore
import Derived.Stop.Joined
import Derived.SevenTiedAt
import Derived.Test.YtkdodbfnocdkdaaGreatDoorCards
import Derived.Test.YtkdodbfnocdkdaaGreatDoorTie
import Derived.WalkKit
import Derived.ProofKit
import Derived.OpenShut
import Derived.ShutString
import Derived.ChangeOld
import Derived.Below
import Derived.Lib.SmallJoins
namespace Go.Proofs.YtkdodbfnocdkdaaGreatDoor.liftTopResolved
open Go.Proofs.YtkdodbfnocdkdaaGreatDoor
open Go.ChangeShapes Go.WideShapes Go.ChangeAt Go.RowKit Go.Joins
open Go.ChangeMaps (open_string shut_string)
set_option linter.unusedVariables false
def Jq (z:Int):Prop:= -9223372036854775808≤z∧z≤9223372036854775807
def Afr (s:ByteArray):Prop:=s.size≤maxLen
def Atr (b:Bool):Prop:=True
def lC {α:Type} (p:α→Prop) (l:List α):Prop:=l.length≤maxLen∧∀x∈l,p x
theorem Dn {W:World} {a b:Sh} {cs:List Value} (h:Reads W (.pair a b) cs):∃xs ys,cs=xs++ys∧Reads W a xs∧Reads W b ys:=by simpa only [Reads] using h
theorem Ju {W:World} {cs:List Value} (h:Reads W .unit cs):cs=[]:=by simpa only [Reads] using h
theorem Ev {W:World} {cs:List Value} (h:Reads W .int cs):∃n:Int,cs=[.int .i64 n]∧Jq n:=by simp only [Reads] at h;exact h
theorem nB {W:World} {cs:List Value} (h:Reads W .str cs):∃s:ByteArray,cs=[.string s]∧Afr s:=by simp only [Reads] at h;exact h
theorem Aak {W:World} {e:Sh} {cs:List Value} (h:Reads W (.sl e) cs):∃a n c,cs=[.slice a n c]∧Reads W (.sl e) [.slice a n c]:=by
 have h':=h
 simp only [Reads] at h'
 obtain ⟨a,n,c,rfl,-⟩:=h'
 exact ⟨a,n,c,rfl,h⟩
theorem W4 {v:Value} {cs:Array Value} {l:List Value} (hv:v=.agg cs) (h:v.cells.toList=l):v=.agg l.toArray:=by
 subst hv;simp [Value.cells] at h;rw [← h]
def Iu (x:Ab):Prop:=Jq x.Ac∧Jq x.Ak∧Jq x.Aj∧Jq x.Af∧Jq x.Aw∧Jq x.Bi
theorem Wb {W:World} {a:Option Addr} {n c:Nat} (h:Reads W (.sl (.pair (.pair .int (.pair (.pair .int (.pair .int .unit)) (.pair .int .unit))) (.pair .int (.pair .int .unit)))) [.slice a n c]):∃l:List Ab,Bo (Rh W) (Ar Ab.E l) (.slice a n c)∧lC Iu l:=
 Xt Ab.E _ Iu rfl (fun es _ h=>by
  obtain ⟨ux0,wx0,rfl,hx0,qx0⟩:=Dn h
  obtain ⟨ux00,wx00,rfl,hx00,qx00⟩:=Dn hx0
  obtain ⟨x00,rfl,fx00⟩:=Ev hx00
  obtain ⟨ux01,wx01,rfl,hx01,qx01⟩:=Dn qx00
  obtain ⟨ux010,wx010,rfl,hx010,qx010⟩:=Dn hx01
  obtain ⟨x010,rfl,fx010⟩:=Ev hx010
  obtain ⟨ux011,wx011,rfl,hx011,qx011⟩:=Dn qx010
  obtain ⟨x011,rfl,fx011⟩:=Ev hx011
  obtain rfl:=Ju qx011
  obtain ⟨ux02,wx02,rfl,hx02,qx02⟩:=Dn qx01
  obtain ⟨x02,rfl,fx02⟩:=Ev hx02
  obtain rfl:=Ju qx02
  obtain ⟨ux1,wx1,rfl,hx1,qx1⟩:=Dn qx0
  obtain ⟨x1,rfl,fx1⟩:=Ev hx1
  obtain ⟨ux2,wx2,rfl,hx2,qx2⟩:=Dn qx1
  obtain ⟨x2,rfl,fx2⟩:=Ev hx2
  obtain rfl:=Ju qx2
  exact ⟨⟨x00,x010,x011,x02,x1,x2⟩,(D5 rfl (D5 rfl (D5 rfl (D5 rfl (D5 rfl (D5 rfl .nil)))))),⟨fx00,fx010,fx011,fx02,fx1,fx2⟩⟩) h
theorem Vk {W:World} {a:Option Addr} {n c:Nat} (h:Reads W (.sl (.sl (.pair (.pair .int (.pair (.pair .int (.pair .int .unit)) (.pair .int .unit))) (.pair .int (.pair .int .unit))))) [.slice a n c]):∃l:List (List Ab),Bo (Rh W) (Ar (Cr Ab.E) l) (.slice a n c)∧lC (lC Iu) l:=
 Xt (Cr Ab.E) _ (lC Iu) rfl (fun es _ h=>by
  obtain ⟨ax,nx,cx,rfl,h⟩:=Aak h
  obtain ⟨x,rx,fx⟩:=Wb h
  exact ⟨x,(.cons rx .nil),fx⟩) h
def Amg (x:Db):Prop:=Jq x.Bf∧Jq x.A9
def Ale (x:Dg):Prop:=Afr x.Name∧Jq x.Fa∧Jq x.B8∧Jq x.C5∧Jq x.Cb∧Jq x.Eg∧Jq x.Eh
theorem own:ownKnob Tryz.prog.godebug=none:=by kernel_rfl
theorem laidOut:laidOutB Tryz.prog=true:=by kernel_rfl
set_option maxRecDepth 100000
theorem rE (os:Os) (args:Array Value):laidMetH Tryz.prog S6 ((World.laidAll Tryz.prog os S6).forCall (fun _ _=>0) ⟨#[],args,[]⟩).memory:=by
 rw [MakeChecks.laidMetH_plain _ _ _ (by kernel_rfl)]
 exact laidMet_laidAll _ (by kernel_rfl) (by kernel_rfl)
theorem lifted (os:Os) (started:os.Started) (H:Type) (enc:TypeId×Value→H):
  ReturnsInHanded {} Tryz.checked os 3 .any (fun w args=>(Rows.topResolvedSpec.pre enc Tryz.prog Tryz.f3 [] false w args∧laidMetH Tryz.prog S6 w)∧sizedMet enc Tryz.prog Tryz.f3 (OpenSpec.ofChange Rows.topResolvedSpec) false w args) (Rows.topResolvedSpec.post enc Tryz.prog Tryz.f3 false true false false):=by
 refine returnsInHanded_of_change_and (C:=Tryz.checked) (X:=fun w _=>laidMetH Tryz.prog S6 w) (fun _ _ _ hh h=>h.of_heap hh) own started (by kernel_rfl) Tryz.func3
  (ChangeSpec.witness_shaped (enc:=enc) (C:=Tryz.checked) (os:=os) (X:=fun w _=>laidMetH Tryz.prog S6 w) false (World.laidAll Tryz.prog os S6) #[.slice none 0 0,.int .i64 0,.agg #[.int .i64 0,.int .i64 0],.int .i64 0,.agg #[.string ⟨#[]⟩,.int .i64 0,.int .i64 0,.int .i64 0,.int .i64 0,.int .i64 0,.int .i64 0]] 8 (World.laidAll_os _ _ _) (World.shaped_of_ZipB (by kernel_rfl) (by kernel_rfl)) (by kernel_rfl) (by kernel_rfl) (by kernel_rfl) (rE os _)) ?_
 intro W base args ds gs before hval0 hW _ _ hL _
 have hval:∀(j:Nat) t v,Tryz.f3.params[j]?=some t→args[j]?=some v→Value.okWide Tryz.prog W .any base t v:=hval0
 have hW':=hW
 obtain ⟨p,q,hA0,hV,rfl,hfz,hnd⟩:=hW
 have hA:DataW.TrodAll enc Tryz.prog W 0 (fun _=>true) true Tryz.f3.params.toList args.toList ds p:=hA0
 rw [Tryz.params3] at hA hval
 obtain ⟨v0,vs0,d0,ds0,p0,q0,hargs,rfl,rfl,k0,r0⟩:=trodAll_cons hA
 obtain ⟨v1,vs1,d1,ds1,p1,q1,rfl,rfl,rfl,k1,r1⟩:=trodAll_cons r0
 obtain ⟨v2,vs2,d2,ds2,p2,q2,rfl,rfl,rfl,k2,r2⟩:=trodAll_cons r1
 obtain ⟨v3,vs3,d3,ds3,p3,q3,rfl,rfl,rfl,k3,r3⟩:=trodAll_cons r2
 obtain ⟨v4,vs4,d4,ds4,p4,q4,rfl,rfl,rfl,k4,r4⟩:=trodAll_cons r3
 obtain ⟨rfl,rfl,rfl⟩:=trodAll_nil r4
 obtain rfl:args=#[v0,v1,v2,v3,v4]:=by cases args;simp_all
 obtain ⟨rfl,rfl⟩:=trodVars_none hV
 have lt0:∀x∈p0,x.block<W.heap.size:=by obtain ⟨m,hm⟩:=k0;exact DataW.trod_lt m _ _ _ hm
 have o0:=hval 0 22 v0 rfl rfl
 have lt1:∀x∈p1,x.block<W.heap.size:=by obtain ⟨m,hm⟩:=k1;exact DataW.trod_lt m _ _ _ hm
 have o1:=hval 1 3 v1 rfl rfl
 have lt2:∀x∈p2,x.block<W.heap.size:=by obtain ⟨m,hm⟩:=k2;exact DataW.trod_lt m _ _ _ hm
 have o2:=hval 2 24 v2 rfl rfl
 have lt3:∀x∈p3,x.block<W.heap.size:=by obtain ⟨m,hm⟩:=k3;exact DataW.trod_lt m _ _ _ hm
 have o3:=hval 3 3 v3 rfl rfl
 have lt4:∀x∈p4,x.block<W.heap.size:=by obtain ⟨m,hm⟩:=k4;exact DataW.trod_lt m _ _ _ hm
 have o4:=hval 4 26 v4 rfl rfl
 obtain ⟨a0,n0,c0,rfl⟩:=okWide_slice Tryz.underlying22 o0
 obtain ⟨l0,rr0,f0⟩:=Vk (Sr (.sl (.sl (.pair (.pair .int (.pair (.pair .int (.pair .int .unit)) (.pair .int .unit))) (.pair .int (.pair .int .unit))))) (by kernel_rfl) k0)
 obtain ⟨l1,rfl,-,-,f1⟩:=open_int Tryz.underlying3 o1 k1
 obtain ⟨cs2,hcs2,-⟩:=okWide_struct Tryz.underlying24 o2
 have h2:=Sr (.pair .int (.pair .int .unit)) (by kernel_rfl) k2
 generalize hg2:v2.cells.toList=es2 at h2
 obtain ⟨ux20,wx20,rfl,hx20,qx20⟩:=Dn h2
 obtain ⟨x20,rfl,fx20⟩:=Ev hx20
 obtain ⟨ux21,wx21,rfl,hx21,qx21⟩:=Dn qx20
 obtain ⟨x21,rfl,fx21⟩:=Ev hx21
 obtain rfl:=Ju qx21
 obtain rfl:=W4 hcs2 hg2
 obtain ⟨l3,rfl,-,-,f3⟩:=open_int Tryz.underlying3 o3 k3
 obtain ⟨cs4,hcs4,-⟩:=okWide_struct Tryz.underlying26 o4
 have h4:=Sr (.pair .str (.pair .int (.pair .int (.pair .int (.pair .int (.pair .int (.pair .int .unit))))))) (by kernel_rfl) k4
 generalize hg4:v4.cells.toList=es4 at h4
 obtain ⟨ux40,wx40,rfl,hx40,qx40⟩:=Dn h4
 obtain ⟨x40,rfl,fx40⟩:=nB hx40
 obtain ⟨ux41,wx41,rfl,hx41,qx41⟩:=Dn qx40
 obtain ⟨x41,rfl,fx41⟩:=Ev hx41
 obtain ⟨ux42,wx42,rfl,hx42,qx42⟩:=Dn qx41
 obtain ⟨x42,rfl,fx42⟩:=Ev hx42
 obtain ⟨ux43,wx43,rfl,hx43,qx43⟩:=Dn qx42
 obtain ⟨x43,rfl,fx43⟩:=Ev hx43
 obtain ⟨ux44,wx44,rfl,hx44,qx44⟩:=Dn qx43
 obtain ⟨x44,rfl,fx44⟩:=Ev hx44
 obtain ⟨ux45,wx45,rfl,hx45,qx45⟩:=Dn qx44
 obtain ⟨x45,rfl,fx45⟩:=Ev hx45
 obtain ⟨ux46,wx46,rfl,hx46,qx46⟩:=Dn qx45
 obtain ⟨x46,rfl,fx46⟩:=Ev hx46
 obtain rfl:=Ju qx46
 obtain rfl:=W4 hcs4 hg4
 clear hA0 hval0
 refine (Wg (sg3 (aL l0 l1 ⟨x20,x21⟩ l3 ⟨x40,x41,x42,x43,x44,x45,x46⟩)) (Aef hL) (.cons rr0 (D5 rfl (.cons (.agg (D5 rfl (D5 rfl .nil))) (D5 rfl (.cons (.agg (D5 rfl (D5 rfl (D5 rfl (D5 rfl (D5 rfl (D5 rfl (D5 rfl .nil)))))))) .nil)))))).mono fun e W' ⟨he,bel⟩=> ?_
 subst he
 exact ⟨_,rfl,_,_,_,[],_,[],hW',trodAll_mk1 (shut_bool Tryz.underlying4 _),(trodAll_cons_mk (Below.trod laidOut (by kernel_rfl) (of_decide_eq_true (by kernel_rfl)) k0 bel lt0) (trodAll_cons_mk (Below.trod laidOut (by kernel_rfl) (of_decide_eq_true (by kernel_rfl)) k1 bel lt1) (trodAll_cons_mk (Below.trod laidOut (by kernel_rfl) (of_decide_eq_true (by kernel_rfl)) k2 bel lt2) (trodAll_cons_mk (Below.trod laidOut (by kernel_rfl) (of_decide_eq_true (by kernel_rfl)) k3 bel lt3) (trodAll_cons_mk (Below.trod laidOut (by kernel_rfl) (of_decide_eq_true (by kernel_rfl)) k4 bel lt4) trodAll_mk0))))),rfl,bel.frame _,fun h=>by cases h⟩
set_option maxRecDepth 100000 in
theorem Ahs:joinedFacts Tryz.prog 3 Tryz.f3 Rows.topResolvedSpec Rows.topResolvedRow=true:=by
 unfold joinedFacts
 simp only [Bool.and_eq_true]
 exact ⟨⟨⟨⟨⟨⟨⟨⟨⟨⟨⟨⟨⟨⟨⟨⟨⟨⟨⟨⟨⟨⟨⟨⟨⟨⟨⟨⟨⟨⟨⟨(by kernel_rfl),Ag1⟩,Aen⟩,(by kernel_rfl)⟩,(by kernel_rfl)⟩,(by kernel_rfl)⟩,(by kernel_rfl)⟩,(by kernel_rfl)⟩,(by kernel_rfl)⟩,nV⟩,Amm⟩,Al4⟩,Aez⟩,(by kernel_rfl)⟩,(by kernel_rfl)⟩,(by kernel_rfl)⟩,(by kernel_rfl)⟩,(by kernel_rfl)⟩,(by kernel_rfl)⟩,(by kernel_rfl)⟩,(by kernel_rfl)⟩,(by kernel_rfl)⟩,Ag3⟩,(by kernel_rfl)⟩,Aet⟩,Ab3⟩,(by kernel_rfl)⟩,(by kernel_rfl)⟩,(by kernel_rfl)⟩,(by kernel_rfl)⟩,(by kernel_rfl)⟩,(by kernel_rfl)⟩
theorem over:Rows.topResolvedRow.holds Tryz.pinned (OpenSpec.ofChange Rows.topResolvedSpec):=
 OpenClaim.holds_of_wide 3 Tryz.f3 rfl rfl rfl rfl rfl rfl rfl ⟨rfl,rfl,rfl,rfl,rfl⟩ rfl rfl rfl rfl rfl (by kernel_rfl) Tryz.func3 Ahs
  (of_decide_eq_true (by kernel_rfl)) (by unfold Func.isWrapper;first|(rw [if_pos (by decide+kernel)];kernel_rfl)|(rw [if_neg (by decide+kernel)];exact ⟨rfl,rfl⟩))
  (fun os started H enc _=>lifted os started H enc)
end Go.Proofs.YtkdodbfnocdkdaaGreatDoor.liftTopResolved
namespace Go.Proofs.YtkdodbfnocdkdaaGreatDoor
theorem topResolved_card:Claim7.holds Tryz.pinned (.plain (OpenSpec.ofChange Rows.topResolvedSpec)) Rows.topResolvedCard:=
 Claim7.holds_tied_plain_at .later [] [.data,.data,.data,.data,.data,.data,.data,.sentinel,.sentinel,.widerDeep,.data,.pinned] true (true, "bd8686a1939ace423867ac00dec8dba62007a694abcd9b62de8ba18937a98d8f") true
  liftTopResolved.over (fun _ h=>by cases h) (by kernel_rfl) (fun _ h=>by cases h) topResolved_row_tie rfl ⟨rfl,rfl⟩ (by kernel_rfl) rfl
  (fun f fn hf hfn=>by
   obtain rfl:f=3:=Option.some.inj ((show Tryz.prog.funcNamed "skyway/skywaytop.TopResolved" =some 3 by kernel_rfl).symm.trans hf)|>.symm
   obtain rfl:fn=Tryz.f3:=(Option.some.inj (Tryz.func3.symm.trans hfn)).symm
   exact ⟨Ace,fun j t ht=>by
    rw [Tryz.params3] at ht
    have hm:t∈([22,3,24,3,26]:List Nat):=by simpa using Array.mem_of_getElem? ht
    have hall:(([22,3,24,3,26]:List Nat).all fun u=> !Tryz.prog.wantsStandIn u)=true:=by kernel_rfl
    exact (show Tryz.prog.wantsStandIn t=false by simpa using List.all_eq_true.1 hall t hm)⟩)
  Aib
/-- The best candidate, said, read back and heard, leaves the separations of all other flights as they were: TopResolved returns true at every input, and its arguments read afterwards as before. Conditions: none. -/
theorem topResolved_holds:Rows.TopResolvedCardSaid:=topResolved_card
#print axioms topResolved_holds
end Go.Proofs.YtkdodbfnocdkdaaGreatDoor
