/- A part. -/
import Derived.Test.YtkdodbfnocdkdaaGreatDoorX1T
import Derived.Shelf.Strconv.Itoa3
import Derived.Shelf.Strconv.AtoiAll
import Derived.Shelf.Strings.Split
import Derived.Lib.LaidTab
import Derived.Lib.AtoiErrMem
set_option linter.unusedVariables false
set_option linter.unusedSimpArgs false
set_option maxRecDepth 100000
namespace Go.Proofs.YtkdodbfnocdkdaaGreatDoor
open Go.RowKit Go.Shelf
def fM:Go.Shelf.Ren:=⟨fun|171=>122|243=>180|246=>248|283=>302|284=>303|285=>304|286=>305|129=>206|317=>334|318=>335|319=>336|320=>337|337=>353|338=>354|n=>n,fun|3=>3|9=>9|2=>2|4=>4|171=>387|0=>0|53=>322|37=>267|5=>5|173=>389|212=>412|51=>320|20=>20|213=>413|46=>262|232=>433|233=>434|n=>n,fun|17=>6|18=>11|19=>12|n=>n⟩
theorem Abi:Go.Proofs.LaysM.n171 Tryz.prog fM where
 mixed:=by kernel_rfl
 f129:=Tryz.func206.trans (congrArg some (by kernel_rfl))
 f171:=Tryz.func122.trans (congrArg some (by kernel_rfl))
 f243:=Tryz.func180.trans (congrArg some (by kernel_rfl))
 f246:=Tryz.func248.trans (congrArg some (by kernel_rfl))
 f283:=Tryz.func302.trans (congrArg some (by kernel_rfl))
 f284:=Tryz.func303.trans (congrArg some (by kernel_rfl))
 f285:=Tryz.func304.trans (congrArg some (by kernel_rfl))
 f286:=Tryz.func305.trans (congrArg some (by kernel_rfl))
 f317:=Tryz.func334.trans (congrArg some (by kernel_rfl))
 f318:=Tryz.func335.trans (congrArg some (by kernel_rfl))
 f319:=Tryz.func336.trans (congrArg some (by kernel_rfl))
 f320:=Tryz.func337.trans (congrArg some (by kernel_rfl))
 f337:=Tryz.func353.trans (congrArg some (by kernel_rfl))
 f338:=Tryz.func354.trans (congrArg some (by kernel_rfl))
 t0:=Tryz.underlying0
 a0:=Tryz.isAgg0
 z0:=Tryz.sizeOf0
 v0:=Tryz.zeroValue0
 t2:=Tryz.underlying2
 a2:=Tryz.isAgg2
 z2:=Tryz.sizeOf2
 v2:=Tryz.zeroValue2
 t3:=Tryz.underlying3
 a3:=Tryz.isAgg3
 z3:=Tryz.sizeOf3
 v3:=Tryz.zeroValue3
 t4:=Tryz.underlying4
 a4:=Tryz.isAgg4
 z4:=Tryz.sizeOf4
 v4:=Tryz.zeroValue4
 t5:=Tryz.underlying5
 a5:=Tryz.isAgg5
 z5:=Tryz.sizeOf5
 v5:=Tryz.zeroValue5
 t9:=Tryz.underlying9
 a9:=Tryz.isAgg9
 z9:=Tryz.sizeOf9
 v9:=Tryz.zeroValue9
 t20:=Tryz.underlying20
 a20:=Tryz.isAgg20
 z20:=Tryz.sizeOf20
 v20:=Tryz.zeroValue20
 t37:=Tryz.underlying267
 a37:=Tryz.isAgg267
 z37:=Tryz.sizeOf267
 v37:=Tryz.zeroValue267
 t46:=Tryz.underlying262
 a46:=Tryz.isAgg262
 z46:=Tryz.sizeOf262
 v46:=Tryz.zeroValue262
 t51:=Tryz.underlying320
 a51:=Tryz.isAgg320
 z51:=Tryz.sizeOf320
 v51:=Tryz.zeroValue320
 t53:=Tryz.underlying322
 a53:=Tryz.isAgg322
 z53:=Tryz.sizeOf322
 v53:=Tryz.zeroValue322
 t171:=Tryz.underlying387
 a171:=Tryz.isAgg387
 z171:=Tryz.sizeOf387
 v171:=Tryz.zeroValue387
 t173:=Tryz.underlying389
 a173:=Tryz.isAgg389
 z173:=Tryz.sizeOf389
 v173:=Tryz.zeroValue389
 t212:=Tryz.underlying412
 a212:=Tryz.isAgg412
 z212:=Tryz.sizeOf412
 v212:=Tryz.zeroValue412
 t213:=Tryz.underlying413
 a213:=Tryz.isAgg413
 z213:=Tryz.sizeOf413
 t232:=Tryz.underlying433
 a232:=Tryz.isAgg433
 z232:=Tryz.sizeOf433
 v232:=Tryz.zeroValue433
 t233:=Tryz.underlying434
 a233:=Tryz.isAgg434
 z233:=Tryz.sizeOf434
 v233:=Tryz.zeroValue434
 g17:=by kernel_rfl
 g18:=by kernel_rfl
 g19:=by kernel_rfl
 i0:=by kernel_rfl
 i2:=by kernel_rfl
 i3:=by kernel_rfl
 i4:=by kernel_rfl
 i5:=by kernel_rfl
 i9:=by kernel_rfl
 i20:=by kernel_rfl
 i37:=by kernel_rfl
 i46:=by kernel_rfl
 i51:=by kernel_rfl
 i53:=by kernel_rfl
 i171:=by kernel_rfl
 i173:=by kernel_rfl
 i212:=by kernel_rfl
 i232:=by kernel_rfl
 i233:=by kernel_rfl
 m17:=by kernel_rfl
 m18:=by kernel_rfl
 m19:=by kernel_rfl
def fH:Go.Shelf.Ren:=⟨fun|172=>125|244=>184|245=>185|247=>253|279=>254|280=>255|281=>256|282=>257|287=>311|316=>312|171=>122|205=>313|321=>340|322=>341|243=>180|246=>248|283=>302|284=>303|285=>304|286=>305|129=>206|317=>334|318=>335|319=>336|320=>337|337=>353|338=>354|n=>n,fun|9=>9|3=>3|75=>245|76=>246|4=>4|5=>5|167=>354|37=>267|0=>0|85=>355|2=>2|168=>357|53=>322|175=>391|46=>262|210=>395|127=>421|145=>424|143=>422|21=>21|171=>387|173=>389|212=>412|51=>320|20=>20|213=>413|232=>433|233=>434|80=>438|n=>n,fun|15=>4|16=>5|17=>6|18=>11|19=>12|n=>n⟩
theorem Acj:Go.Proofs.LaysC.n172 Tryz.prog fH where
 mixed:=by kernel_rfl
 f129:=Tryz.func206.trans (congrArg some (by kernel_rfl))
 f171:=Tryz.func122.trans (congrArg some (by kernel_rfl))
 f172:=Tryz.func125.trans (congrArg some (by kernel_rfl))
 f205:=Tryz.func313.trans (congrArg some (by kernel_rfl))
 f243:=Tryz.func180.trans (congrArg some (by kernel_rfl))
 f244:=Tryz.func184.trans (congrArg some (by kernel_rfl))
 f245:=Tryz.func185.trans (congrArg some (by kernel_rfl))
 f246:=Tryz.func248.trans (congrArg some (by kernel_rfl))
 f247:=Tryz.func253.trans (congrArg some (by kernel_rfl))
 f279:=Tryz.func254.trans (congrArg some (by kernel_rfl))
 f280:=Tryz.func255.trans (congrArg some (by kernel_rfl))
 f281:=Tryz.func256.trans (congrArg some (by kernel_rfl))
 f282:=Tryz.func257.trans (congrArg some (by kernel_rfl))
 f283:=Tryz.func302.trans (congrArg some (by kernel_rfl))
 f284:=Tryz.func303.trans (congrArg some (by kernel_rfl))
 f285:=Tryz.func304.trans (congrArg some (by kernel_rfl))
 f286:=Tryz.func305.trans (congrArg some (by kernel_rfl))
 f287:=Tryz.func311.trans (congrArg some (by kernel_rfl))
 f316:=Tryz.func312.trans (congrArg some (by kernel_rfl))
 f317:=Tryz.func334.trans (congrArg some (by kernel_rfl))
 f318:=Tryz.func335.trans (congrArg some (by kernel_rfl))
 f319:=Tryz.func336.trans (congrArg some (by kernel_rfl))
 f320:=Tryz.func337.trans (congrArg some (by kernel_rfl))
 f321:=Tryz.func340.trans (congrArg some (by kernel_rfl))
 f322:=Tryz.func341.trans (congrArg some (by kernel_rfl))
 f337:=Tryz.func353.trans (congrArg some (by kernel_rfl))
 f338:=Tryz.func354.trans (congrArg some (by kernel_rfl))
 t0:=Tryz.underlying0
 a0:=Tryz.isAgg0
 z0:=Tryz.sizeOf0
 v0:=Tryz.zeroValue0
 t2:=Tryz.underlying2
 a2:=Tryz.isAgg2
 z2:=Tryz.sizeOf2
 v2:=Tryz.zeroValue2
 t3:=Tryz.underlying3
 a3:=Tryz.isAgg3
 z3:=Tryz.sizeOf3
 v3:=Tryz.zeroValue3
 t4:=Tryz.underlying4
 a4:=Tryz.isAgg4
 z4:=Tryz.sizeOf4
 v4:=Tryz.zeroValue4
 t5:=Tryz.underlying5
 a5:=Tryz.isAgg5
 z5:=Tryz.sizeOf5
 v5:=Tryz.zeroValue5
 t9:=Tryz.underlying9
 a9:=Tryz.isAgg9
 z9:=Tryz.sizeOf9
 v9:=Tryz.zeroValue9
 t20:=Tryz.underlying20
 a20:=Tryz.isAgg20
 z20:=Tryz.sizeOf20
 v20:=Tryz.zeroValue20
 t21:=Tryz.underlying21
 a21:=Tryz.isAgg21
 z21:=Tryz.sizeOf21
 v21:=Tryz.zeroValue21
 t37:=Tryz.underlying267
 a37:=Tryz.isAgg267
 z37:=Tryz.sizeOf267
 v37:=Tryz.zeroValue267
 t46:=Tryz.underlying262
 a46:=Tryz.isAgg262
 z46:=Tryz.sizeOf262
 v46:=Tryz.zeroValue262
 t51:=Tryz.underlying320
 a51:=Tryz.isAgg320
 z51:=Tryz.sizeOf320
 v51:=Tryz.zeroValue320
 t53:=Tryz.underlying322
 a53:=Tryz.isAgg322
 z53:=Tryz.sizeOf322
 v53:=Tryz.zeroValue322
 t75:=Tryz.underlying245
 a75:=Tryz.isAgg245
 z75:=Tryz.sizeOf245
 v75:=Tryz.zeroValue245
 t76:=Tryz.underlying246
 a76:=Tryz.isAgg246
 z76:=Tryz.sizeOf246
 v76:=Tryz.zeroValue246
 t85:=Tryz.underlying355
 a85:=Tryz.isAgg355
 z85:=Tryz.sizeOf355
 v85:=Tryz.zeroValue355
 t127:=Tryz.underlying421
 a127:=Tryz.isAgg421
 z127:=Tryz.sizeOf421
 v127:=Tryz.zeroValue421
 t143:=Tryz.underlying422
 a143:=Tryz.isAgg422
 z143:=Tryz.sizeOf422
 v143:=Tryz.zeroValue422
 t145:=Tryz.underlying424
 a145:=Tryz.isAgg424
 z145:=Tryz.sizeOf424
 v145:=Tryz.zeroValue424
 t167:=Tryz.underlying354
 a167:=Tryz.isAgg354
 z167:=Tryz.sizeOf354
 v167:=Tryz.zeroValue354
 t168:=Tryz.underlying357
 a168:=Tryz.isAgg357
 z168:=Tryz.sizeOf357
 v168:=Tryz.zeroValue357
 t171:=Tryz.underlying387
 a171:=Tryz.isAgg387
 z171:=Tryz.sizeOf387
 v171:=Tryz.zeroValue387
 t173:=Tryz.underlying389
 a173:=Tryz.isAgg389
 z173:=Tryz.sizeOf389
 v173:=Tryz.zeroValue389
 t175:=Tryz.underlying391
 a175:=Tryz.isAgg391
 z175:=Tryz.sizeOf391
 v175:=Tryz.zeroValue391
 t210:=Tryz.underlying395
 a210:=Tryz.isAgg395
 z210:=Tryz.sizeOf395
 v210:=Tryz.zeroValue395
 t212:=Tryz.underlying412
 a212:=Tryz.isAgg412
 z212:=Tryz.sizeOf412
 v212:=Tryz.zeroValue412
 t213:=Tryz.underlying413
 a213:=Tryz.isAgg413
 z213:=Tryz.sizeOf413
 t232:=Tryz.underlying433
 a232:=Tryz.isAgg433
 z232:=Tryz.sizeOf433
 v232:=Tryz.zeroValue433
 t233:=Tryz.underlying434
 a233:=Tryz.isAgg434
 z233:=Tryz.sizeOf434
 v233:=Tryz.zeroValue434
 g15:=by kernel_rfl
 g16:=by kernel_rfl
 g17:=by kernel_rfl
 g18:=by kernel_rfl
 g19:=by kernel_rfl
 t80:=Tryz.underlying438
 a80:=Tryz.isAgg438
 z80:=Tryz.sizeOf438
 v80:=Tryz.zeroValue438
 i0:=by kernel_rfl
 i2:=by kernel_rfl
 i3:=by kernel_rfl
 i4:=by kernel_rfl
 i5:=by kernel_rfl
 i9:=by kernel_rfl
 i20:=by kernel_rfl
 i21:=by kernel_rfl
 i37:=by kernel_rfl
 i46:=by kernel_rfl
 i51:=by kernel_rfl
 i53:=by kernel_rfl
 i75:=by kernel_rfl
 i76:=by kernel_rfl
 i80:=by kernel_rfl
 i85:=by kernel_rfl
 i127:=by kernel_rfl
 i143:=by kernel_rfl
 i145:=by kernel_rfl
 i167:=by kernel_rfl
 i168:=by kernel_rfl
 i171:=by kernel_rfl
 i173:=by kernel_rfl
 i175:=by kernel_rfl
 i210:=by kernel_rfl
 i212:=by kernel_rfl
 i232:=by kernel_rfl
 i233:=by kernel_rfl
 m15:=by kernel_rfl
 m16:=by kernel_rfl
 m17:=by kernel_rfl
 m18:=by kernel_rfl
 m19:=by kernel_rfl
 c0:=by kernel_rfl
 c2:=by kernel_rfl
 c3:=by kernel_rfl
 c4:=by kernel_rfl
 c5:=by kernel_rfl
 c9:=by kernel_rfl
 c20:=by kernel_rfl
 c21:=by kernel_rfl
 c37:=by kernel_rfl
 c46:=by kernel_rfl
 c51:=by kernel_rfl
 c53:=by kernel_rfl
 c75:=by kernel_rfl
 c76:=by kernel_rfl
 c80:=by kernel_rfl
 c85:=by kernel_rfl
 c127:=by kernel_rfl
 c143:=by kernel_rfl
 c145:=by kernel_rfl
 c167:=by kernel_rfl
 c168:=by kernel_rfl
 c171:=by kernel_rfl
 c173:=by kernel_rfl
 c175:=by kernel_rfl
 c210:=by kernel_rfl
 c212:=by kernel_rfl
 c213:=by kernel_rfl
 c232:=by kernel_rfl
 c233:=by kernel_rfl
def Zu:Go.Shelf.Ren:=⟨fun|146=>48|221=>123|268=>181|138=>182|143=>183|195=>249|197=>250|218=>251|219=>252|260=>306|217=>307|225=>308|224=>309|267=>310|266=>338|314=>339|n=>n,fun|9=>9|31=>74|3=>3|4=>4|0=>0|105=>351|21=>21|5=>5|46=>262|119=>414|139=>417|138=>416|146=>418|51=>320|n=>n,fun|1=>2|3=>7|4=>8|n=>n⟩
theorem rH:Go.Proofs.Lays.n146 Tryz.prog Zu where
 mixed:=by kernel_rfl
 f138:=Tryz.func182.trans (congrArg some (by kernel_rfl))
 f143:=Tryz.func183.trans (congrArg some (by kernel_rfl))
 f146:=Tryz.func48.trans (congrArg some (by kernel_rfl))
 f195:=Tryz.func249.trans (congrArg some (by kernel_rfl))
 f197:=Tryz.func250.trans (congrArg some (by kernel_rfl))
 f217:=Tryz.func307.trans (congrArg some (by kernel_rfl))
 f218:=Tryz.func251.trans (congrArg some (by kernel_rfl))
 f219:=Tryz.func252.trans (congrArg some (by kernel_rfl))
 f221:=Tryz.func123.trans (congrArg some (by kernel_rfl))
 f224:=Tryz.func309.trans (congrArg some (by kernel_rfl))
 f225:=Tryz.func308.trans (congrArg some (by kernel_rfl))
 f260:=Tryz.func306.trans (congrArg some (by kernel_rfl))
 f266:=Tryz.func338.trans (congrArg some (by kernel_rfl))
 f267:=Tryz.func310.trans (congrArg some (by kernel_rfl))
 f268:=Tryz.func181.trans (congrArg some (by kernel_rfl))
 f314:=Tryz.func339.trans (congrArg some (by kernel_rfl))
 t0:=Tryz.underlying0
 a0:=Tryz.isAgg0
 z0:=Tryz.sizeOf0
 v0:=Tryz.zeroValue0
 t3:=Tryz.underlying3
 a3:=Tryz.isAgg3
 z3:=Tryz.sizeOf3
 v3:=Tryz.zeroValue3
 t4:=Tryz.underlying4
 a4:=Tryz.isAgg4
 z4:=Tryz.sizeOf4
 v4:=Tryz.zeroValue4
 t5:=Tryz.underlying5
 a5:=Tryz.isAgg5
 z5:=Tryz.sizeOf5
 v5:=Tryz.zeroValue5
 t9:=Tryz.underlying9
 a9:=Tryz.isAgg9
 z9:=Tryz.sizeOf9
 v9:=Tryz.zeroValue9
 t21:=Tryz.underlying21
 a21:=Tryz.isAgg21
 z21:=Tryz.sizeOf21
 v21:=Tryz.zeroValue21
 t31:=Tryz.underlying74
 a31:=Tryz.isAgg74
 z31:=Tryz.sizeOf74
 v31:=Tryz.zeroValue74
 t46:=Tryz.underlying262
 a46:=Tryz.isAgg262
 z46:=Tryz.sizeOf262
 v46:=Tryz.zeroValue262
 t51:=Tryz.underlying320
 a51:=Tryz.isAgg320
 z51:=Tryz.sizeOf320
 v51:=Tryz.zeroValue320
 t105:=Tryz.underlying351
 a105:=Tryz.isAgg351
 z105:=Tryz.sizeOf351
 v105:=Tryz.zeroValue351
 t119:=Tryz.underlying414
 a119:=Tryz.isAgg414
 z119:=Tryz.sizeOf414
 t138:=Tryz.underlying416
 a138:=Tryz.isAgg416
 z138:=Tryz.sizeOf416
 v138:=Tryz.zeroValue416
 t139:=Tryz.underlying417
 a139:=Tryz.isAgg417
 z139:=Tryz.sizeOf417
 v139:=Tryz.zeroValue417
 t146:=Tryz.underlying418
 a146:=Tryz.isAgg418
 z146:=Tryz.sizeOf418
 v146:=Tryz.zeroValue418
 g1:=by kernel_rfl
 g3:=by kernel_rfl
 g4:=by kernel_rfl
section
variable {gl:Nat→Option (List AV)}
theorem iE {B:Nat} {c:Cx} (hgl:Cw gl c) {g:Nat} {cs:List AV} (hg:gl g=some cs):∃vs,Bm c cs vs∧Iv c.w g 0 vs:=by
 have h:=(hgl g cs hg).2.1
 generalize hp:Value.pointer (some ⟨g,0,none⟩)=u at h
 cases h with
 |Cq hb hr hc off=>
  rename_i b o vs
  simp only [Value.pointer.injEq,Option.some.injEq,Addr.mk.injEq] at hp
  obtain ⟨rfl,h2,-⟩:=hp
  have:o=0:=by omega
  subst this
  exact ⟨vs,hr,hc⟩
theorem dD {c:Cx} (hgl:Cw gl c) {g:Nat} {name:String} {k:IntKind} {zs:List Int} (hn:Tryz.prog.globalNamed name=some g) (hg:gl g=some ((zs.map fun z=>Value.int k z).map AV.sc)) (hz:sized g=true):Lib.TabIs Tryz.prog c.w name k zs:=by
 obtain ⟨vs,h1,h2⟩:=iE (B:=0) hgl hg
 obtain ⟨rfl,-⟩:=Vg h1
 obtain ⟨hs,arr,T,fz,h3,h4⟩:=(hgl g _ hg).2.2 hz
 unfold Lib.TabIs World.var?
 rw [hn]
 simp only [Option.bind_some,h3,Option.some.injEq]
 apply Array.ext_getElem?
 intro i
 have e:((zs.map fun z=>Value.int k z).toArray)[i]?=(zs.map fun z=>Value.int k z)[i]?:=by simp
 rw [e]
 rcases Nat.lt_or_ge i (zs.map fun z=>Value.int k z).length with hi|hi
 ·have:=h2 i _ (List.getElem?_eq_getElem hi)
  unfold World.cell? at this
  simp only [h3,Option.isSome_none,Bool.false_eq_true,if_false,Nat.zero_add] at this
  rw [this,List.getElem?_eq_getElem hi]
 ·rw [List.getElem?_eq_none hi,Array.getElem?_eq_none (by rw [h4];simpa using hi)]
end
abbrev Agi:=ByteArray
def eK (n:Nat) (z:Int):Option Agi:=if -9223372036854775808≤z∧z≤9223372036854775807 then some ⟨(Lib.itoa z).toArray⟩ else none
theorem Afp {n:Nat} {z:Int} {t:Agi} (h:eK n z=some t):Ci Tryz.prog KK.gl 122 [Aa z] (An t):=by
 unfold eK at h
 split at h
 ·rename_i hz
  cases h
  refine Kw ⟨Tryz.f122,_,Tryz.func122,rfl,by kernel_rfl⟩ rfl rfl fun B c vals g hgl hr=> ?_
  cases hr with
  |cons r1 r2=>
   cases r2
   cases r1
   refine (Any.strconv_Itoa Abi z hz.1 hz.2 c.w (dD (g:=6) (zs:=Lib.pow10Tab) hgl (by kernel_rfl) (by rfl) rfl)).mono ?_
   rintro e w' ⟨rfl,k,os,rfl⟩
   exact ⟨_,rfl,Kept.grow _ _ _,.sc _ rfl⟩
 ·cases h
abbrev Ags:=Int×Bool
def Adi (n:Nat) (s:ByteArray):Option Ags:=if s.size≤281474976710656 then (match Lib.atoiAll s.data.toList with
 |.ok v=>some (v,true)
 |_=>none) else none
theorem Ao3 {n:Nat} {s:ByteArray} {t:Ags} (h:Adi n s=some t):Ci Tryz.prog KK.gl 125 [An s] (.Bn [Aa t.1,.w8 t.2]):=by
 unfold Adi at h
 split at h
 ·rename_i hz
  refine Kw ⟨Tryz.f125,_,Tryz.func125,rfl,by kernel_rfl⟩ rfl rfl fun B c vals g hgl hr=> ?_
  cases hr with
  |cons r1 r2=>
   cases r2
   cases r1
   split at h
   ·rename_i v hv
    cases h
    refine (Any.strconv_Atoi_ok Acj s (by omega) v hv c.w).mono ?_
    rintro e w' ⟨rfl,hw⟩
    refine ⟨_,rfl,?_,.Bn (.cons (.sc _ rfl) (.cons .Qe .nil))⟩
    rcases hw with rfl|⟨t,rfl⟩
    ·exact Kept.refl _
    ·have k:=fun e=>Lib.bytesWorld_below c.w e t
     exact ⟨(k _).os,(k _).tape,(k _).output,(k _).size,fun b hb=>(k _).block b hb,bB (by simp [Lib.bytesWorld,World.freeze,World.alloc,World.drew,-World.alloc_eq,-World.drew_eq])⟩
   ·cases h
 ·cases h
theorem Pu (c:UInt8):∀l:List UInt8,Lib.index l [c]=Lib.indexByte l c
 |[]=>rfl
 |b::l=>by
  unfold Lib.index Lib.indexByte
  rw [Pu c l]
  have e:List.isPrefixOf [c] (b::l)=(b==c):=by
   simp [List.isPrefixOf,Bool.beq_comm]
  rw [e]
theorem Ail {P:Program} {ρ:Ren} (L:Lays.n146 P ρ) (hi9:(P.info? (ρ.t 9)).map (fun i=>(i.zero,i.size,i.bytes))=some (some (.string ByteArray.empty),1,16)) (s:ByteArray) (b:UInt8) (w:World) (hs:s.size<4294967281):
  Calls P (ρ.f 146) #[.string s,.string ⟨#[b]⟩] w fun e w'=>
   e=.returned (.slice (some ⟨w.heap.size,0,none⟩) (Lib.countB s ⟨#[b]⟩+1) (Lib.countB s ⟨#[b]⟩+1))∧w'=w.alloc (.cells ((Lib.splitB ⟨#[b]⟩ 0 (Lib.countB s ⟨#[b]⟩) s).map Value.string).toArray (ρ.t 9)):=by
 have h1:1≤(⟨#[b]⟩:ByteArray).size:=Nat.le_refl _
 have hle:=Lib.countB_le ⟨#[b]⟩ h1 s.size s (Nat.le_refl _)
 have hlen:=Lib.splitB_all ⟨#[b]⟩ h1 0 _ s rfl
 have c:=Any.strings_genSplit_core (L:={L with}) hi9 s ⟨#[b]⟩ 0 (-1) (Lib.countB s ⟨#[b]⟩+1) w hs h1 (Nat.zero_le _)
  (fun x c hx=>(Any.strings_Index_one {L with} x b _).mono fun e w' ⟨he,hw⟩=>⟨by rw [he];show _=Ending.returned (Value.int .i64 (Lib.index x.data.toList [b]));rw [Pu],hw⟩)
  ((Any.strings_Count_one {L with} s b w).mono fun e w' ⟨he,hw⟩=>⟨by rw [he];show _=Ending.returned (Value.int .i64 ((Lib.count s.data.toList [b]:Nat):Int));rw [Lib.count_one];rfl,hw⟩)
  (by decide) (by decide) (by rw [if_pos (by decide)];omega)
 rw [Nat.add_sub_cancel,hlen] at c
 have e2:Lib.cellsOf (Lib.splitB ⟨#[b]⟩ 0 (Lib.countB s ⟨#[b]⟩) s) (Lib.countB s ⟨#[b]⟩+1)=((Lib.splitB ⟨#[b]⟩ 0 (Lib.countB s ⟨#[b]⟩) s).map Value.string).toArray:=by rw [← hlen];exact Lib.cellsOf_full _
 rw [e2] at c
 have t3:=L.t3;have t9:=L.t9;have t31:=L.t31
 have a3:=L.a3;have a9:=L.a9;have a31:=L.a31
 have z3:=L.z3;have v3:=L.v3;have z9:=L.z9;have v9:=L.v9;have z31:=L.z31;have v31:=L.v31
 have e221:∀args w,(callFunc (ρ.f 221) args).run P w=.ok (.enter (ρ.f 221) args) w:=enters_of L.f221 (by kernel_rfl) rfl
 go_enter L.f146,Body.n146_ntmps ρ
 go_wp2_with (go_at_fn (ρ.f 221);refine c.mono ?_;rintro e w' ⟨rfl,hw⟩;rw [hw])
 go_ret
 exact ⟨rfl,rfl⟩
abbrev Ant:=List ByteArray
def g48 (n:Nat) (s sep:ByteArray):Option Ant:=if s.size<4294967281∧sep.size=1 then some (Lib.splitB sep 0 (Lib.countB s sep) s) else none
theorem Xx {c:Cx}:∀l:List ByteArray,Bm c (A0 L8 l) (l.map Value.string)
 |[]=> .nil
 |x::l=> .cons (.sc _ rfl) (Xx l)
theorem Aq7 {n:Nat} {s sep:ByteArray} {t:Ant} (h:g48 n s sep=some t):Ci Tryz.prog KK.gl 48 [An s,An sep] (Ar L8 t):=by
 unfold g48 at h
 split at h
 ·rename_i hz
  cases h
  obtain ⟨b,rfl⟩:=Lib.one_byte sep hz.2
  refine Kw ⟨Tryz.f48,_,Tryz.func48,rfl,by kernel_rfl⟩ rfl (L9 _ _) fun B c vals g hgl hr=> ?_
  cases hr with
  |cons r1 r2=>
   cases r1
   cases r2 with
   |cons r2 r3=>
    cases r3
    cases r2
    refine (Ail rH (by kernel_rfl) s b c.w hz.1).mono ?_
    rintro e w' ⟨rfl,rfl⟩
    have hlen:=Lib.splitB_all ⟨#[b]⟩ (Nat.le_refl _) 0 _ s rfl
    have hle:=Lib.countB_le ⟨#[b]⟩ (Nat.le_refl _) s.size s (Nat.le_refl _)
    refine ⟨_,rfl,Kept.alloc _ _,?_⟩
    rw [← hlen]
    refine .Ec (c:={c with w:=_}) (Zx g (by simp)) (Xx _) (fun k v hk=> ?_) (Nat.le_refl _) (fun h=>by cases h) (by unfold maxLen;omega)
    unfold World.cell?
    rw [Pk]
    simp only [Option.isSome_none,Bool.false_eq_true,if_false,Nat.zero_add,List.getElem?_toArray]
    exact hk
 ·cases h
end Go.Proofs.YtkdodbfnocdkdaaGreatDoor
