/- After the best clearance there is no clash, and all earlier candidates have one: ResolveSafe returns true at every input, and its arguments read afterwards as before. Conditions: none. -/
import Derived.Test.YtmhnnmfcjdnlhaaGreatDoorX1E9
import Derived.Test.YtmhnnmfcjdnlhaaGreatDoorRsD
import Derived.Lay
import Derived.Test.YtmhnnmfcjdnlhaaGreatDoorEbG
import Derived.LaidMore
import Derived.Stop.Joined
import Derived.SevenTiedAt
import Derived.Test.YtmhnnmfcjdnlhaaGreatDoorCards
import Derived.Test.YtmhnnmfcjdnlhaaGreatDoorTie
import Derived.Test.YtmhnnmfcjdnlhaaGreatDoorPi23
import Derived.WalkKit
import Derived.ProofKit
import Derived.OpenShut
import Derived.ShutString
import Derived.ChangeOld
import Derived.Below
import Derived.Lib.SmallJoins
namespace Go.Proofs.YtmhnnmfcjdnlhaaGreatDoor.liftResolveSafe
open Go.Proofs.YtmhnnmfcjdnlhaaGreatDoor
open Go.ChangeShapes Go.WideShapes Go.ChangeAt Go.RowKit Go.Joins
open Go.ChangeMaps (open_string shut_string)
set_option linter.unusedVariables false
def Ja (z:Int):Prop:= -9223372036854775808≤z∧z≤9223372036854775807
def xH (s:ByteArray):Prop:=s.size≤maxLen
def Ahr (b:Bool):Prop:=True
def cR {α:Type} (p:α→Prop) (l:List α):Prop:=l.length≤maxLen∧∀x∈l,p x
theorem Dt {W:World} {a b:Sh} {cs:List Value} (h:Reads W (.pair a b) cs):∃xs ys,cs=xs++ys∧Reads W a xs∧Reads W b ys:=by simpa only [Reads] using h
theorem I4 {W:World} {cs:List Value} (h:Reads W .unit cs):cs=[]:=by simpa only [Reads] using h
theorem Et {W:World} {cs:List Value} (h:Reads W .int cs):∃n:Int,cs=[.int .i64 n]∧Ja n:=by simp only [Reads] at h;exact h
theorem fN {W:World} {cs:List Value} (h:Reads W .str cs):∃s:ByteArray,cs=[.string s]∧xH s:=by simp only [Reads] at h;exact h
theorem kT {W:World} {e:Sh} {cs:List Value} (h:Reads W (.sl e) cs):∃a n c,cs=[.slice a n c]∧Reads W (.sl e) [.slice a n c]:=by
 have h':=h
 simp only [Reads] at h'
 obtain ⟨a,n,c,rfl,-⟩:=h'
 exact ⟨a,n,c,rfl,h⟩
theorem Tk {v:Value} {cs:Array Value} {l:List Value} (hv:v=.agg cs) (h:v.cells.toList=l):v=.agg l.toArray:=by
 subst hv;simp [Value.cells] at h;rw [← h]
def H9 (x:Ab):Prop:=Ja x.Ac∧Ja x.Ak∧Ja x.Aj∧Ja x.Ad∧Ja x.Ay∧Ja x.Br
theorem Su {W:World} {a:Option Addr} {n c:Nat} (h:Reads W (.sl (.pair (.pair .int (.pair (.pair .int (.pair .int .unit)) (.pair .int .unit))) (.pair .int (.pair .int .unit)))) [.slice a n c]):∃l:List Ab,B9 (Qg W) (As Ab.E l) (.slice a n c)∧cR H9 l:=
 Td Ab.E _ H9 rfl (fun es _ h=>by
  obtain ⟨ux0,wx0,rfl,hx0,qx0⟩:=Dt h
  obtain ⟨ux00,wx00,rfl,hx00,qx00⟩:=Dt hx0
  obtain ⟨x00,rfl,fx00⟩:=Et hx00
  obtain ⟨ux01,wx01,rfl,hx01,qx01⟩:=Dt qx00
  obtain ⟨ux010,wx010,rfl,hx010,qx010⟩:=Dt hx01
  obtain ⟨x010,rfl,fx010⟩:=Et hx010
  obtain ⟨ux011,wx011,rfl,hx011,qx011⟩:=Dt qx010
  obtain ⟨x011,rfl,fx011⟩:=Et hx011
  obtain rfl:=I4 qx011
  obtain ⟨ux02,wx02,rfl,hx02,qx02⟩:=Dt qx01
  obtain ⟨x02,rfl,fx02⟩:=Et hx02
  obtain rfl:=I4 qx02
  obtain ⟨ux1,wx1,rfl,hx1,qx1⟩:=Dt qx0
  obtain ⟨x1,rfl,fx1⟩:=Et hx1
  obtain ⟨ux2,wx2,rfl,hx2,qx2⟩:=Dt qx1
  obtain ⟨x2,rfl,fx2⟩:=Et hx2
  obtain rfl:=I4 qx2
  exact ⟨⟨x00,x010,x011,x02,x1,x2⟩,(D8 rfl (D8 rfl (D8 rfl (D8 rfl (D8 rfl (D8 rfl .nil)))))),⟨fx00,fx010,fx011,fx02,fx1,fx2⟩⟩) h
theorem Sa {W:World} {a:Option Addr} {n c:Nat} (h:Reads W (.sl (.sl (.pair (.pair .int (.pair (.pair .int (.pair .int .unit)) (.pair .int .unit))) (.pair .int (.pair .int .unit))))) [.slice a n c]):∃l:List (List Ab),B9 (Qg W) (As (Ct Ab.E) l) (.slice a n c)∧cR (cR H9) l:=
 Td (Ct Ab.E) _ (cR H9) rfl (fun es _ h=>by
  obtain ⟨ax,nx,cx,rfl,h⟩:=kT h
  obtain ⟨x,rx,fx⟩:=Su h
  exact ⟨x,(.cons rx .nil),fx⟩) h
def Ae1 (x:Ea):Prop:=Ja x.Bu∧Ja x.Bj
def Acz (x:Dm):Prop:=xH x.Name∧Ja x.D9∧Ja x.B6∧Ja x.C1∧Ja x.Ca∧Ja x.Dy∧Ja x.Dz
theorem own:ownKnob Tryz.prog.godebug=none:=by kernel_rfl
theorem laidOut:laidOutB Tryz.prog=true:=by kernel_rfl
set_option maxRecDepth 100000
theorem mZ (os:Os) (args:Array Value):laidMetH Tryz.prog Qa ((World.laidAll Tryz.prog os Qa).forCall (fun _ _=>0) ⟨#[],args,[]⟩).memory:=by
 rw [MakeChecks.laidMetH_plain _ _ _ (by kernel_rfl)]
 exact laidMet_laidAll _ (by kernel_rfl) (by kernel_rfl)
theorem lifted (os:Os) (started:os.Started) (H:Type) (enc:TypeId×Value→H):
  ReturnsInHanded {} Tryz.checked os 3 .any (fun w args=>(Rows.resolveSafeSpec.pre enc Tryz.prog Tryz.f3 [] false w args∧laidMetH Tryz.prog Qa w)∧sizedMet enc Tryz.prog Tryz.f3 (OpenSpec.ofChange Rows.resolveSafeSpec) false w args) (Rows.resolveSafeSpec.post enc Tryz.prog Tryz.f3 false true false false):=by
 refine returnsInHanded_of_change_and (C:=Tryz.checked) (X:=fun w _=>laidMetH Tryz.prog Qa w) (fun _ _ _ hh h=>h.of_heap hh) own started (by kernel_rfl) Tryz.func3
  (ChangeSpec.witness_shaped (enc:=enc) (C:=Tryz.checked) (os:=os) (X:=fun w _=>laidMetH Tryz.prog Qa w) false (World.laidAll Tryz.prog os Qa) #[.slice none 0 0,.int .i64 0,.agg #[.int .i64 0,.int .i64 0],.int .i64 0,.agg #[.string ⟨#[]⟩,.int .i64 0,.int .i64 0,.int .i64 0,.int .i64 0,.int .i64 0,.int .i64 0]] 8 (World.laidAll_os _ _ _) (World.shaped_of_ZipB (by kernel_rfl) (by kernel_rfl)) (by kernel_rfl) (by kernel_rfl) (by kernel_rfl) (mZ os _)) ?_
 intro W base args ds gs before hval0 hW _ _ hL _
 have hval:∀(j:Nat) t v,Tryz.f3.params[j]?=some t→args[j]?=some v→Value.okWide Tryz.prog W .any base t v:=hval0
 have hW':=hW
 obtain ⟨p,q,hA0,hV,rfl,hfz,hnd⟩:=hW
 have hA:DataW.TrodAll enc Tryz.prog W 0 (fun _=>true) true Tryz.f3.params.toList args.toList ds p:=hA0
 rw [Tryz.params3] at hA hval
 obtain ⟨v0,vs0,d0,ds0,p0,q0,hargs,rfl,rfl,k0,r0⟩:=trodAll_cons hA
 obtain ⟨v1,vs1,d1,ds1,p1,q1,rfl,rfl,rfl,k1,r1⟩:=trodAll_cons r0
 obtain ⟨v2,vs2,d2,ds2,p2,q2,rfl,rfl,rfl,k2,r2⟩:=trodAll_cons r1
 obtain ⟨v3,vs3,d3,ds3,p3,q3,rfl,rfl,rfl,k3,r3⟩:=trodAll_cons r2
 obtain ⟨v4,vs4,d4,ds4,p4,q4,rfl,rfl,rfl,k4,r4⟩:=trodAll_cons r3
 obtain ⟨rfl,rfl,rfl⟩:=trodAll_nil r4
 obtain rfl:args=#[v0,v1,v2,v3,v4]:=by cases args;simp_all
 obtain ⟨rfl,rfl⟩:=trodVars_none hV
 have lt0:∀x∈p0,x.block<W.heap.size:=by obtain ⟨m,hm⟩:=k0;exact DataW.trod_lt m _ _ _ hm
 have o0:=hval 0 22 v0 rfl rfl
 have lt1:∀x∈p1,x.block<W.heap.size:=by obtain ⟨m,hm⟩:=k1;exact DataW.trod_lt m _ _ _ hm
 have o1:=hval 1 3 v1 rfl rfl
 have lt2:∀x∈p2,x.block<W.heap.size:=by obtain ⟨m,hm⟩:=k2;exact DataW.trod_lt m _ _ _ hm
 have o2:=hval 2 24 v2 rfl rfl
 have lt3:∀x∈p3,x.block<W.heap.size:=by obtain ⟨m,hm⟩:=k3;exact DataW.trod_lt m _ _ _ hm
 have o3:=hval 3 3 v3 rfl rfl
 have lt4:∀x∈p4,x.block<W.heap.size:=by obtain ⟨m,hm⟩:=k4;exact DataW.trod_lt m _ _ _ hm
 have o4:=hval 4 26 v4 rfl rfl
 obtain ⟨a0,n0,c0,rfl⟩:=okWide_slice Tryz.underlying22 o0
 obtain ⟨l0,rr0,f0⟩:=Sa (O4 (.sl (.sl (.pair (.pair .int (.pair (.pair .int (.pair .int .unit)) (.pair .int .unit))) (.pair .int (.pair .int .unit))))) (by kernel_rfl) k0)
 obtain ⟨l1,rfl,-,-,f1⟩:=open_int Tryz.underlying3 o1 k1
 obtain ⟨cs2,hcs2,-⟩:=okWide_struct Tryz.underlying24 o2
 have h2:=O4 (.pair .int (.pair .int .unit)) (by kernel_rfl) k2
 generalize hg2:v2.cells.toList=es2 at h2
 obtain ⟨ux20,wx20,rfl,hx20,qx20⟩:=Dt h2
 obtain ⟨x20,rfl,fx20⟩:=Et hx20
 obtain ⟨ux21,wx21,rfl,hx21,qx21⟩:=Dt qx20
 obtain ⟨x21,rfl,fx21⟩:=Et hx21
 obtain rfl:=I4 qx21
 obtain rfl:=Tk hcs2 hg2
 obtain ⟨l3,rfl,-,-,f3⟩:=open_int Tryz.underlying3 o3 k3
 obtain ⟨cs4,hcs4,-⟩:=okWide_struct Tryz.underlying26 o4
 have h4:=O4 (.pair .str (.pair .int (.pair .int (.pair .int (.pair .int (.pair .int (.pair .int .unit))))))) (by kernel_rfl) k4
 generalize hg4:v4.cells.toList=es4 at h4
 obtain ⟨ux40,wx40,rfl,hx40,qx40⟩:=Dt h4
 obtain ⟨x40,rfl,fx40⟩:=fN hx40
 obtain ⟨ux41,wx41,rfl,hx41,qx41⟩:=Dt qx40
 obtain ⟨x41,rfl,fx41⟩:=Et hx41
 obtain ⟨ux42,wx42,rfl,hx42,qx42⟩:=Dt qx41
 obtain ⟨x42,rfl,fx42⟩:=Et hx42
 obtain ⟨ux43,wx43,rfl,hx43,qx43⟩:=Dt qx42
 obtain ⟨x43,rfl,fx43⟩:=Et hx43
 obtain ⟨ux44,wx44,rfl,hx44,qx44⟩:=Dt qx43
 obtain ⟨x44,rfl,fx44⟩:=Et hx44
 obtain ⟨ux45,wx45,rfl,hx45,qx45⟩:=Dt qx44
 obtain ⟨x45,rfl,fx45⟩:=Et hx45
 obtain ⟨ux46,wx46,rfl,hx46,qx46⟩:=Dt qx45
 obtain ⟨x46,rfl,fx46⟩:=Et hx46
 obtain rfl:=I4 qx46
 obtain rfl:=Tk hcs4 hg4
 clear hA0 hval0
 refine (S3 (sg3 (jJ 10000000000 (by unfold Yv;decide) l0 l1 ⟨x20,x21⟩ l3 ⟨x40,x41,x42,x43,x44,x45,x46⟩)) (rZ hL) (.cons rr0 (D8 rfl (.cons (.agg (D8 rfl (D8 rfl .nil))) (D8 rfl (.cons (.agg (D8 rfl (D8 rfl (D8 rfl (D8 rfl (D8 rfl (D8 rfl (D8 rfl .nil)))))))) .nil)))))).mono fun e W' ⟨he,bel⟩=> ?_
 subst he
 exact ⟨_,rfl,_,_,_,[],_,[],hW',trodAll_mk1 (shut_bool Tryz.underlying4 _),(trodAll_cons_mk (Below.trod laidOut (by kernel_rfl) (of_decide_eq_true (by kernel_rfl)) k0 bel lt0) (trodAll_cons_mk (Below.trod laidOut (by kernel_rfl) (of_decide_eq_true (by kernel_rfl)) k1 bel lt1) (trodAll_cons_mk (Below.trod laidOut (by kernel_rfl) (of_decide_eq_true (by kernel_rfl)) k2 bel lt2) (trodAll_cons_mk (Below.trod laidOut (by kernel_rfl) (of_decide_eq_true (by kernel_rfl)) k3 bel lt3) (trodAll_cons_mk (Below.trod laidOut (by kernel_rfl) (of_decide_eq_true (by kernel_rfl)) k4 bel lt4) trodAll_mk0))))),rfl,bel.frame _,fun h=>by cases h⟩
theorem over:Rows.resolveSafeRow.holds Tryz.pinned (OpenSpec.ofChange Rows.resolveSafeSpec):=
 OpenClaim.holds_of_wide 3 Tryz.f3 rfl rfl rfl rfl rfl rfl rfl ⟨rfl,rfl,rfl,rfl,rfl⟩ rfl rfl rfl rfl rfl (by kernel_rfl) Tryz.func3 (by kernel_rfl)
  (of_decide_eq_true (by kernel_rfl)) (by unfold Func.isWrapper;first|(rw [if_pos (by decide+kernel)];kernel_rfl)|(rw [if_neg (by decide+kernel)];exact ⟨rfl,rfl⟩))
  (fun os started H enc _=>lifted os started H enc)
end Go.Proofs.YtmhnnmfcjdnlhaaGreatDoor.liftResolveSafe
namespace Go.Proofs.YtmhnnmfcjdnlhaaGreatDoor
theorem resolveSafe_card:Claim7.holds Tryz.pinned (.plain (OpenSpec.ofChange Rows.resolveSafeSpec)) Rows.resolveSafeCard:=
 Claim7.holds_tied_plain_at .later [] [.data,.data,.data,.widerDeep,.data] true (true, "57d156a90db466b37f97add32f0e69d8550a967ff9779421c2948c777cb9d810") false
  liftResolveSafe.over (fun _ h=>by cases h) (by kernel_rfl) (fun _ h=>by cases h) resolveSafe_row_tie rfl ⟨rfl,rfl⟩ (by kernel_rfl) rfl
  (fun f fn hf hfn=>by
   obtain rfl:f=3:=Option.some.inj ((show Tryz.prog.funcNamed "skyway/skywaykeep3.ResolveSafe" =some 3 by kernel_rfl).symm.trans hf)|>.symm
   obtain rfl:fn=Tryz.f3:=(Option.some.inj (Tryz.func3.symm.trans hfn)).symm
   exact ⟨by kernel_rfl,fun j t ht=>by
    rw [Tryz.params3] at ht
    have hm:t∈([22,3,24,3,26]:List Nat):=by simpa using Array.mem_of_getElem? ht
    have hall:(([22,3,24,3,26]:List Nat).all fun u=> !Tryz.prog.wantsStandIn u)=true:=by kernel_rfl
    exact (show Tryz.prog.wantsStandIn t=false by simpa using List.all_eq_true.1 hall t hm)⟩)
  (by kernel_rfl)
/-- After the best clearance there is no clash, and all earlier candidates have one: ResolveSafe returns true at every input, and its arguments read afterwards as before. Conditions: none. -/
theorem resolveSafe_holds:Rows.ResolveSafeCardSaid:=resolveSafe_card
#print axioms resolveSafe_holds
end Go.Proofs.YtmhnnmfcjdnlhaaGreatDoor
