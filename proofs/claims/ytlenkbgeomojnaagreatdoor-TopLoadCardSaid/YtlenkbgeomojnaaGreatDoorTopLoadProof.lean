/- Flights that start later have the same greatest loads, later by as much: TopLoad returns true at every input, and its arguments read afterwards as before. Conditions: none. -/
import Derived.Test.YtlenkbgeomojnaaGreatDoorX1E5
import Derived.Test.YtlenkbgeomojnaaGreatDoorToC
import Derived.Lay
import Derived.Test.YtlenkbgeomojnaaGreatDoorTdG
import Derived.Test.YtlenkbgeomojnaaGreatDoorToJA
import Derived.Test.YtlenkbgeomojnaaGreatDoorToJB
import Derived.Test.YtlenkbgeomojnaaGreatDoorToJC
import Derived.LaidMore
import Derived.Stop.Joined
import Derived.SevenTiedAt
import Derived.Test.YtlenkbgeomojnaaGreatDoorCards
import Derived.Test.YtlenkbgeomojnaaGreatDoorTie
import Derived.Test.YtlenkbgeomojnaaGreatDoorPi23
import Derived.WalkKit
import Derived.ProofKit
import Derived.OpenShut
import Derived.ShutString
import Derived.ChangeOld
import Derived.Below
import Derived.Lib.SmallJoins
namespace Go.Proofs.YtlenkbgeomojnaaGreatDoor.liftTopLoad
open Go.Proofs.YtlenkbgeomojnaaGreatDoor
open Go.ChangeShapes Go.WideShapes Go.ChangeAt Go.RowKit Go.Joins
open Go.ChangeMaps (open_string shut_string)
set_option linter.unusedVariables false
def fineI (z:Int):Prop:= -9223372036854775808≤z∧z≤9223372036854775807
def fineS (s:ByteArray):Prop:=s.size≤maxLen
def fineB (b:Bool):Prop:=True
def fineL {α:Type} (p:α→Prop) (l:List α):Prop:=l.length≤maxLen∧∀x∈l,p x
theorem reads_pair {W:World} {a b:Sh} {cs:List Value} (h:Reads W (.pair a b) cs):∃xs ys,cs=xs++ys∧Reads W a xs∧Reads W b ys:=by simpa only [Reads] using h
theorem reads_unit {W:World} {cs:List Value} (h:Reads W .unit cs):cs=[]:=by simpa only [Reads] using h
theorem reads_int {W:World} {cs:List Value} (h:Reads W .int cs):∃n:Int,cs=[.int .i64 n]∧fineI n:=by simp only [Reads] at h;exact h
theorem reads_str {W:World} {cs:List Value} (h:Reads W .str cs):∃s:ByteArray,cs=[.string s]∧fineS s:=by simp only [Reads] at h;exact h
theorem reads_sl {W:World} {e:Sh} {cs:List Value} (h:Reads W (.sl e) cs):∃a n c,cs=[.slice a n c]∧Reads W (.sl e) [.slice a n c]:=by
 have h':=h
 simp only [Reads] at h'
 obtain ⟨a,n,c,rfl,-⟩:=h'
 exact ⟨a,n,c,rfl,h⟩
theorem agg_cells {v:Value} {cs:Array Value} {l:List Value} (hv:v=.agg cs) (h:v.cells.toList=l):v=.agg l.toArray:=by
 subst hv;simp [Value.cells] at h;rw [← h]
def fineTP (x:TP):Prop:=fineI x.X∧fineI x.Y
theorem rd_lTP {W:World} {a:Option Addr} {n c:Nat} (h:Reads W (.sl (.pair .int (.pair .int .unit))) [.slice a n c]):∃l:List TP,VRel (cx0 W) (lstA TP.E l) (.slice a n c)∧fineL fineTP l:=
 reads_lst TP.E _ fineTP rfl (fun es _ h=>by
  obtain ⟨ux0,wx0,rfl,hx0,qx0⟩:=reads_pair h
  obtain ⟨x0,rfl,fx0⟩:=reads_int hx0
  obtain ⟨ux1,wx1,rfl,hx1,qx1⟩:=reads_pair qx0
  obtain ⟨x1,rfl,fx1⟩:=reads_int hx1
  obtain rfl:=reads_unit qx1
  exact ⟨⟨x0,x1⟩,(rels_cons rfl (rels_cons rfl .nil)),⟨fx0,fx1⟩⟩) h
def fineTVolume (x:TVolume):Prop:=(fineL fineTP) x.Area∧fineI x.Low∧fineI x.High
theorem rd_lTVolume {W:World} {a:Option Addr} {n c:Nat} (h:Reads W (.sl (.pair (.sl (.pair .int (.pair .int .unit))) (.pair .int (.pair .int .unit)))) [.slice a n c]):∃l:List TVolume,VRel (cx0 W) (lstA TVolume.E l) (.slice a n c)∧fineL fineTVolume l:=
 reads_lst TVolume.E _ fineTVolume rfl (fun es _ h=>by
  obtain ⟨ux0,wx0,rfl,hx0,qx0⟩:=reads_pair h
  obtain ⟨ax0,nx0,cx0,rfl,hx0⟩:=reads_sl hx0
  obtain ⟨x0,rx0,fx0⟩:=rd_lTP hx0
  obtain ⟨ux1,wx1,rfl,hx1,qx1⟩:=reads_pair qx0
  obtain ⟨x1,rfl,fx1⟩:=reads_int hx1
  obtain ⟨ux2,wx2,rfl,hx2,qx2⟩:=reads_pair qx1
  obtain ⟨x2,rfl,fx2⟩:=reads_int hx2
  obtain rfl:=reads_unit qx2
  exact ⟨⟨x0,x1,x2⟩,(.cons rx0 (rels_cons rfl (rels_cons rfl .nil))),⟨fx0,fx1,fx2⟩⟩) h
def fineTSector (x:TSector):Prop:=fineS x.Name∧(fineL fineTVolume) x.Room
theorem rd_lTSector {W:World} {a:Option Addr} {n c:Nat} (h:Reads W (.sl (.pair .str (.pair (.sl (.pair (.sl (.pair .int (.pair .int .unit))) (.pair .int (.pair .int .unit)))) .unit))) [.slice a n c]):∃l:List TSector,VRel (cx0 W) (lstA TSector.E l) (.slice a n c)∧fineL fineTSector l:=
 reads_lst TSector.E _ fineTSector rfl (fun es _ h=>by
  obtain ⟨ux0,wx0,rfl,hx0,qx0⟩:=reads_pair h
  obtain ⟨x0,rfl,fx0⟩:=reads_str hx0
  obtain ⟨ux1,wx1,rfl,hx1,qx1⟩:=reads_pair qx0
  obtain ⟨ax1,nx1,cx1,rfl,hx1⟩:=reads_sl hx1
  obtain ⟨x1,rx1,fx1⟩:=rd_lTVolume hx1
  obtain rfl:=reads_unit qx1
  exact ⟨⟨x0,x1⟩,(rels_cons rfl (.cons rx1 .nil)),⟨fx0,fx1⟩⟩) h
def fineTTubeNode (x:TTubeNode):Prop:=fineI x.Node_Time∧fineI x.Node_At_X∧fineI x.Node_At_Y∧fineI x.Node_Height∧fineI x.Radius∧fineI x.Band
theorem rd_lTTubeNode {W:World} {a:Option Addr} {n c:Nat} (h:Reads W (.sl (.pair (.pair .int (.pair (.pair .int (.pair .int .unit)) (.pair .int .unit))) (.pair .int (.pair .int .unit)))) [.slice a n c]):∃l:List TTubeNode,VRel (cx0 W) (lstA TTubeNode.E l) (.slice a n c)∧fineL fineTTubeNode l:=
 reads_lst TTubeNode.E _ fineTTubeNode rfl (fun es _ h=>by
  obtain ⟨ux0,wx0,rfl,hx0,qx0⟩:=reads_pair h
  obtain ⟨ux00,wx00,rfl,hx00,qx00⟩:=reads_pair hx0
  obtain ⟨x00,rfl,fx00⟩:=reads_int hx00
  obtain ⟨ux01,wx01,rfl,hx01,qx01⟩:=reads_pair qx00
  obtain ⟨ux010,wx010,rfl,hx010,qx010⟩:=reads_pair hx01
  obtain ⟨x010,rfl,fx010⟩:=reads_int hx010
  obtain ⟨ux011,wx011,rfl,hx011,qx011⟩:=reads_pair qx010
  obtain ⟨x011,rfl,fx011⟩:=reads_int hx011
  obtain rfl:=reads_unit qx011
  obtain ⟨ux02,wx02,rfl,hx02,qx02⟩:=reads_pair qx01
  obtain ⟨x02,rfl,fx02⟩:=reads_int hx02
  obtain rfl:=reads_unit qx02
  obtain ⟨ux1,wx1,rfl,hx1,qx1⟩:=reads_pair qx0
  obtain ⟨x1,rfl,fx1⟩:=reads_int hx1
  obtain ⟨ux2,wx2,rfl,hx2,qx2⟩:=reads_pair qx1
  obtain ⟨x2,rfl,fx2⟩:=reads_int hx2
  obtain rfl:=reads_unit qx2
  exact ⟨⟨x00,x010,x011,x02,x1,x2⟩,(rels_cons rfl (rels_cons rfl (rels_cons rfl (rels_cons rfl (rels_cons rfl (rels_cons rfl .nil)))))),⟨fx00,fx010,fx011,fx02,fx1,fx2⟩⟩) h
theorem rd_llTTubeNode {W:World} {a:Option Addr} {n c:Nat} (h:Reads W (.sl (.sl (.pair (.pair .int (.pair (.pair .int (.pair .int .unit)) (.pair .int .unit))) (.pair .int (.pair .int .unit))))) [.slice a n c]):∃l:List (List TTubeNode),VRel (cx0 W) (lstA (lstE TTubeNode.E) l) (.slice a n c)∧fineL (fineL fineTTubeNode) l:=
 reads_lst (lstE TTubeNode.E) _ (fineL fineTTubeNode) rfl (fun es _ h=>by
  obtain ⟨ax,nx,cx,rfl,h⟩:=reads_sl h
  obtain ⟨x,rx,fx⟩:=rd_lTTubeNode h
  exact ⟨x,(.cons rx .nil),fx⟩) h
def fineTSpan (x:TSpan):Prop:=fineI x.From∧fineI x.To
theorem own:ownKnob Tryz.prog.godebug=none:=by kernel_rfl
theorem laidOut:laidOutB Tryz.prog=true:=by kernel_rfl
set_option maxRecDepth 100000
theorem door_met (os:Os) (args:Array Value):laidMetH Tryz.prog laidR ((World.laidAll Tryz.prog os laidR).forCall (fun _ _=>0) ⟨#[],args,[]⟩).memory:=by
 rw [MakeChecks.laidMetH_plain _ _ _ (by kernel_rfl)]
 exact laidMet_laidAll _ (by kernel_rfl) (by kernel_rfl)
theorem lifted (os:Os) (started:os.Started) (H:Type) (enc:TypeId×Value→H):
  ReturnsInHanded {} Tryz.checked os 3 .any (fun w args=>(Rows.topLoadSpec.pre enc Tryz.prog Tryz.f3 [] false w args∧laidMetH Tryz.prog laidR w)∧sizedMet enc Tryz.prog Tryz.f3 (OpenSpec.ofChange Rows.topLoadSpec) false w args) (Rows.topLoadSpec.post enc Tryz.prog Tryz.f3 false true false false):=by
 refine returnsInHanded_of_change_and (C:=Tryz.checked) (X:=fun w _=>laidMetH Tryz.prog laidR w) (fun _ _ _ hh h=>h.of_heap hh) own started (by kernel_rfl) Tryz.func3
  (ChangeSpec.witness_shaped (enc:=enc) (C:=Tryz.checked) (os:=os) (X:=fun w _=>laidMetH Tryz.prog laidR w) false (World.laidAll Tryz.prog os laidR) #[.slice none 0 0,.slice none 0 0,.agg #[.int .i64 0,.int .i64 0],.int .i64 0] 8 (World.laidAll_os _ _ _) (World.shaped_of_ZipB (by kernel_rfl) (by kernel_rfl)) (by kernel_rfl) (by kernel_rfl) (by kernel_rfl) (door_met os _)) ?_
 intro W base args ds gs before hval0 hW _ _ hL _
 have hval:∀(j:Nat) t v,Tryz.f3.params[j]?=some t→args[j]?=some v→Value.okWide Tryz.prog W .any base t v:=hval0
 have hW':=hW
 obtain ⟨p,q,hA0,hV,rfl,hfz,hnd⟩:=hW
 have hA:DataW.TrodAll enc Tryz.prog W 0 (fun _=>true) true Tryz.f3.params.toList args.toList ds p:=hA0
 rw [Tryz.params3] at hA hval
 obtain ⟨v0,vs0,d0,ds0,p0,q0,hargs,rfl,rfl,k0,r0⟩:=trodAll_cons hA
 obtain ⟨v1,vs1,d1,ds1,p1,q1,rfl,rfl,rfl,k1,r1⟩:=trodAll_cons r0
 obtain ⟨v2,vs2,d2,ds2,p2,q2,rfl,rfl,rfl,k2,r2⟩:=trodAll_cons r1
 obtain ⟨v3,vs3,d3,ds3,p3,q3,rfl,rfl,rfl,k3,r3⟩:=trodAll_cons r2
 obtain ⟨rfl,rfl,rfl⟩:=trodAll_nil r3
 obtain rfl:args=#[v0,v1,v2,v3]:=by cases args;simp_all
 obtain ⟨rfl,rfl⟩:=trodVars_none hV
 have lt0:∀x∈p0,x.block<W.heap.size:=by obtain ⟨m,hm⟩:=k0;exact DataW.trod_lt m _ _ _ hm
 have o0:=hval 0 22 v0 rfl rfl
 have lt1:∀x∈p1,x.block<W.heap.size:=by obtain ⟨m,hm⟩:=k1;exact DataW.trod_lt m _ _ _ hm
 have o1:=hval 1 23 v1 rfl rfl
 have lt2:∀x∈p2,x.block<W.heap.size:=by obtain ⟨m,hm⟩:=k2;exact DataW.trod_lt m _ _ _ hm
 have o2:=hval 2 25 v2 rfl rfl
 have lt3:∀x∈p3,x.block<W.heap.size:=by obtain ⟨m,hm⟩:=k3;exact DataW.trod_lt m _ _ _ hm
 have o3:=hval 3 3 v3 rfl rfl
 obtain ⟨a0,n0,c0,rfl⟩:=okWide_slice Tryz.underlying22 o0
 obtain ⟨l0,rr0,f0⟩:=rd_lTSector (reads_arg (.sl (.pair .str (.pair (.sl (.pair (.sl (.pair .int (.pair .int .unit))) (.pair .int (.pair .int .unit)))) .unit))) (by kernel_rfl) k0)
 obtain ⟨a1,n1,c1,rfl⟩:=okWide_slice Tryz.underlying23 o1
 obtain ⟨l1,rr1,f1⟩:=rd_llTTubeNode (reads_arg (.sl (.sl (.pair (.pair .int (.pair (.pair .int (.pair .int .unit)) (.pair .int .unit))) (.pair .int (.pair .int .unit))))) (by kernel_rfl) k1)
 obtain ⟨cs2,hcs2,-⟩:=okWide_struct Tryz.underlying25 o2
 have h2:=reads_arg (.pair .int (.pair .int .unit)) (by kernel_rfl) k2
 generalize hg2:v2.cells.toList=es2 at h2
 obtain ⟨ux20,wx20,rfl,hx20,qx20⟩:=reads_pair h2
 obtain ⟨x20,rfl,fx20⟩:=reads_int hx20
 obtain ⟨ux21,wx21,rfl,hx21,qx21⟩:=reads_pair qx20
 obtain ⟨x21,rfl,fx21⟩:=reads_int hx21
 obtain rfl:=reads_unit qx21
 obtain rfl:=agg_cells hcs2 hg2
 obtain ⟨l3,rfl,-,-,f3⟩:=open_int Tryz.underlying3 o3 k3
 clear hA0 hval0
 refine (calls_of_says (sg3 (load_law l0 l1 ⟨x20,x21⟩ l3)) (glob_ok hL) (.cons rr0 (.cons rr1 (.cons (.agg (rels_cons rfl (rels_cons rfl .nil))) (rels_cons rfl .nil))))).mono fun e W' ⟨he,bel⟩=> ?_
 subst he
 exact ⟨_,rfl,_,_,_,[],_,[],hW',trodAll_mk1 (shut_bool Tryz.underlying4 _),(trodAll_cons_mk (Below.trod laidOut (by kernel_rfl) (of_decide_eq_true (by kernel_rfl)) k0 bel lt0) (trodAll_cons_mk (Below.trod laidOut (by kernel_rfl) (of_decide_eq_true (by kernel_rfl)) k1 bel lt1) (trodAll_cons_mk (Below.trod laidOut (by kernel_rfl) (of_decide_eq_true (by kernel_rfl)) k2 bel lt2) (trodAll_cons_mk (Below.trod laidOut (by kernel_rfl) (of_decide_eq_true (by kernel_rfl)) k3 bel lt3) trodAll_mk0)))),rfl,bel.frame _,fun h=>by cases h⟩
set_option maxRecDepth 100000 in
theorem joined:joinedFacts Tryz.prog 3 Tryz.f3 Rows.topLoadSpec Rows.topLoadRow=true:=by
 unfold joinedFacts
 simp only [Bool.and_eq_true]
 exact ⟨⟨⟨⟨⟨⟨⟨⟨⟨⟨⟨⟨⟨⟨⟨⟨⟨⟨⟨⟨⟨⟨⟨⟨⟨⟨⟨⟨⟨⟨⟨(by kernel_rfl),h_laid⟩,h_rowed⟩,(by kernel_rfl)⟩,(by kernel_rfl)⟩,(by kernel_rfl)⟩,(by kernel_rfl)⟩,(by kernel_rfl)⟩,(by kernel_rfl)⟩,h_inPlace⟩,h_unf⟩,h_rec⟩,h_named⟩,(by kernel_rfl)⟩,(by kernel_rfl)⟩,(by kernel_rfl)⟩,(by kernel_rfl)⟩,(by kernel_rfl)⟩,(by kernel_rfl)⟩,(by kernel_rfl)⟩,(by kernel_rfl)⟩,(by kernel_rfl)⟩,h_keys⟩,(by kernel_rfl)⟩,h_heard⟩,h_enter⟩,(by kernel_rfl)⟩,(by kernel_rfl)⟩,(by kernel_rfl)⟩,(by kernel_rfl)⟩,(by kernel_rfl)⟩,(by kernel_rfl)⟩
theorem over:Rows.topLoadRow.holds Tryz.pinned (OpenSpec.ofChange Rows.topLoadSpec):=
 OpenClaim.holds_of_wide 3 Tryz.f3 rfl rfl rfl rfl rfl rfl rfl ⟨rfl,rfl,rfl,rfl,rfl⟩ rfl rfl rfl rfl rfl (by kernel_rfl) Tryz.func3 joined
  (of_decide_eq_true (by kernel_rfl)) (by unfold Func.isWrapper;first|(rw [if_pos (by decide+kernel)];kernel_rfl)|(rw [if_neg (by decide+kernel)];exact ⟨rfl,rfl⟩))
  (fun os started H enc _=>lifted os started H enc)
end Go.Proofs.YtlenkbgeomojnaaGreatDoor.liftTopLoad
namespace Go.Proofs.YtlenkbgeomojnaaGreatDoor
theorem topLoad_card:Claim7.holds Tryz.pinned (.plain (OpenSpec.ofChange Rows.topLoadSpec)) Rows.topLoadCard:=
 Claim7.holds_tied_plain_at .later [] [.data,.data,.data,.data,.data,.data,.data,.sentinel,.sentinel,.widerDeep,.data,.pinned] true (true, "b25154e6f1a68ca5d131b3c2de6e56b1186dd41d52a4857399f81396dc8d2c0d") true
  liftTopLoad.over (fun _ h=>by cases h) (by kernel_rfl) (fun _ h=>by cases h) topLoad_row_tie rfl ⟨rfl,rfl⟩ (by kernel_rfl) rfl
  (fun f fn hf hfn=>by
   obtain rfl:f=3:=Option.some.inj ((show Tryz.prog.funcNamed "skyway/skywaytop.TopLoad" =some 3 by kernel_rfl).symm.trans hf)|>.symm
   obtain rfl:fn=Tryz.f3:=(Option.some.inj (Tryz.func3.symm.trans hfn)).symm
   exact ⟨h_looks,fun j t ht=>by
    rw [Tryz.params3] at ht
    have hm:t∈([22,23,25,3]:List Nat):=by simpa using Array.mem_of_getElem? ht
    have hall:(([22,23,25,3]:List Nat).all fun u=> !Tryz.prog.wantsStandIn u)=true:=by kernel_rfl
    exact (show Tryz.prog.wantsStandIn t=false by simpa using List.all_eq_true.1 hall t hm)⟩)
  h_goes
/-- Flights that start later have the same greatest loads, later by as much: TopLoad returns true at every input, and its arguments read afterwards as before. Conditions: none. -/
theorem topLoad_holds:Rows.TopLoadCardSaid:=topLoad_card
#print axioms topLoad_holds
end Go.Proofs.YtlenkbgeomojnaaGreatDoor
