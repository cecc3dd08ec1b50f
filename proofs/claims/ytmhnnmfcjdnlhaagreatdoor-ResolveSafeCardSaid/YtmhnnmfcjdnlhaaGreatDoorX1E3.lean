/- A part. -/
import Derived.Test.YtmhnnmfcjdnlhaaGreatDoorX1E2
set_option linter.unusedVariables false
set_option linter.unusedSimpArgs false
set_option maxRecDepth 100000
set_option maxHeartbeats 4000000
namespace Go.Proofs.YtmhnnmfcjdnlhaaGreatDoor
theorem tJ (n c:Nat) {t:cL} (R:AV→Mem→Prop) (hR:∀r:cL,t=r→∀u m,C2 ((Ci r)) u m→R u m):h9 n c=some t→vM c R:=by
 unfold h9 vM
 refine Wl ?_
 refine Aq (fun _=> ?_) (fun _=> ?_)
 ·exact C9 hR rfl rfl
 ·refine At fun j d=> ?_
  refine imp (An (Abl d)) ?_
  refine imp Eh ?_
  refine Aq (fun _=> ?_) (fun _=> ?_)
  ·exact C9 hR rfl rfl
  ·refine At fun k e=> ?_
   refine imp (An (gX e)) ?_
   refine imp Eh ?_
   refine Aq (fun _=> ?_) (fun _=> ?_)
   ·refine At fun l f=> ?_
    refine imp (An (Aam f)) ?_
    refine imp D1 ?_
    exact C9 hR rfl rfl
   ·refine jK ?_
    refine Aq (fun _=> ?_) (fun _=> ?_)
    ·refine Gw ?_
     refine Zo ?_
     refine Aq (fun _=> ?_) (fun _=> ?_)
     ·exact fun h=>by cases h
     ·refine Ax fun o=> ?_
      refine At fun a g=> ?_
      refine iq (AV.sc (.int .u64 a)) (N9 Bi Bi g) ?_
      refine imp Dj ?_
      refine iq (Ci (Jn a)) (K0 Bi Bi) ?_
      refine imp D1 ?_
      refine iq (AV.sc (.int .u64 (E2 .u64 a (1)))) (Hk _ _) ?_
      refine imp Dj ?_
      refine Aq (fun _=> ?_) (fun _=> ?_)
      ·refine A4 fun p=> ?_
       refine iq (AV.sc (.int .u64 (E2 .u64 (IntKind.wrap .u64 (a+(1))) (7)))) (Hk _ _) ?_
       refine imp Dj ?_
       refine Ax fun q=> ?_
       refine D6 fun s=> ?_
       refine Ax fun v=> ?_
       refine D6 fun w=> ?_
       refine Ax fun x=> ?_
       refine D6 fun y=> ?_
       refine Aq (fun _=> ?_) (fun _=> ?_)
       ·refine Ax fun z=> ?_
        refine Aq (fun _=> ?_) (fun _=> ?_)
        ·refine Ax fun aa=> ?_
         refine D6 fun ab=> ?_
         refine Ax fun ad=> ?_
         refine Bq 13666448263388469915 rfl rfl ?_
         refine Ax fun ae=> ?_
         refine Bq 4477121864728985349 rfl rfl ?_
         refine A4 fun af=> ?_
         refine Ax fun ag=> ?_
         refine Bq 13732177093698800582 rfl rfl ?_
         refine A4 fun ah=> ?_
         refine Ax fun ai=> ?_
         refine Bq 4537941361668146421 rfl rfl ?_
         refine A4 fun aj=> ?_
         refine Ax fun ak=> ?_
         refine Bq 13787419979223748497 rfl rfl ?_
         refine A4 fun al=> ?_
         refine Ax fun am=> ?_
         refine Bq 4586165620538955083 rfl rfl ?_
         refine A4 fun an=> ?_
         refine Ax fun ao=> ?_
         refine A4 fun ap=> ?_
         exact C9 hR rfl rfl
        ·refine Aq (fun _=> ?_) (fun _=> ?_)
         ·refine Ax fun aq=> ?_
          refine D6 fun ar=> ?_
          refine Ax fun au=> ?_
          refine Bq 13666448263388469915 rfl rfl ?_
          refine Ax fun av=> ?_
          refine Bq 4477121864728985349 rfl rfl ?_
          refine A4 fun aw=> ?_
          refine Ax fun ax=> ?_
          refine Bq 13732177093698800582 rfl rfl ?_
          refine A4 fun ay=> ?_
          refine Ax fun az=> ?_
          refine Bq 4537941361668146421 rfl rfl ?_
          refine A4 fun ba=> ?_
          refine Ax fun bb=> ?_
          refine Bq 13787419979223748497 rfl rfl ?_
          refine A4 fun bc=> ?_
          refine Ax fun bd=> ?_
          refine Bq 4586165620538955083 rfl rfl ?_
          refine A4 fun be=> ?_
          refine Ax fun bf=> ?_
          refine A4 fun bg=> ?_
          exact C9 hR rfl rfl
         ·refine Ax fun bh=> ?_
          refine Bq 4460209587652500685 rfl rfl ?_
          refine Ax fun bi=> ?_
          refine Bq 13716528389658582877 rfl rfl ?_
          refine A4 fun bj=> ?_
          refine Ax fun bk=> ?_
          refine Bq 4523617212962785441 rfl rfl ?_
          refine A4 fun bl=> ?_
          refine Ax fun bm=> ?_
          refine Bq 13774824197404483331 rfl rfl ?_
          refine A4 fun bn=> ?_
          refine Ax fun bo=> ?_
          refine Bq 4575957461383575504 rfl rfl ?_
          refine A4 fun bp=> ?_
          refine Ax fun bq=> ?_
          refine Bq 13818544856648471880 rfl rfl ?_
          refine A4 fun br=> ?_
          refine Ax fun bs=> ?_
          refine A4 fun bt=> ?_
          exact C9 hR rfl rfl
       ·refine Ax fun bu=> ?_
        refine Aq (fun _=> ?_) (fun _=> ?_)
        ·refine Ax fun bv=> ?_
         refine D6 fun bw=> ?_
         refine Ax fun bz=> ?_
         refine Bq 13666448263388469915 rfl rfl ?_
         refine Ax fun ca=> ?_
         refine Bq 4477121864728985349 rfl rfl ?_
         refine A4 fun cb=> ?_
         refine Ax fun cc=> ?_
         refine Bq 13732177093698800582 rfl rfl ?_
         refine A4 fun cd=> ?_
         refine Ax fun ce=> ?_
         refine Bq 4537941361668146421 rfl rfl ?_
         refine A4 fun cg=> ?_
         refine Ax fun ch=> ?_
         refine Bq 13787419979223748497 rfl rfl ?_
         refine A4 fun ci=> ?_
         refine Ax fun cj=> ?_
         refine Bq 4586165620538955083 rfl rfl ?_
         refine A4 fun ck=> ?_
         refine Ax fun cl=> ?_
         refine A4 fun cm=> ?_
         refine Gw ?_
         exact C9 hR rfl rfl
        ·refine Aq (fun _=> ?_) (fun _=> ?_)
         ·refine Ax fun cn=> ?_
          refine D6 fun co=> ?_
          refine Ax fun cp=> ?_
          refine Bq 13666448263388469915 rfl rfl ?_
          refine Ax fun cq=> ?_
          refine Bq 4477121864728985349 rfl rfl ?_
          refine A4 fun cr=> ?_
          refine Ax fun cs=> ?_
          refine Bq 13732177093698800582 rfl rfl ?_
          refine A4 fun ct=> ?_
          refine Ax fun cu=> ?_
          refine Bq 4537941361668146421 rfl rfl ?_
          refine A4 fun cv=> ?_
          refine Ax fun cw=> ?_
          refine Bq 13787419979223748497 rfl rfl ?_
          refine A4 fun cx=> ?_
          refine Ax fun cy=> ?_
          refine Bq 4586165620538955083 rfl rfl ?_
          refine A4 fun cz=> ?_
          refine Ax fun da=> ?_
          refine A4 fun db=> ?_
          refine Gw ?_
          exact C9 hR rfl rfl
         ·refine Ax fun dc=> ?_
          refine Bq 4460209587652500685 rfl rfl ?_
          refine Ax fun dd=> ?_
          refine Bq 13716528389658582877 rfl rfl ?_
          refine A4 fun de=> ?_
          refine Ax fun df=> ?_
          refine Bq 4523617212962785441 rfl rfl ?_
          refine A4 fun dg=> ?_
          refine Ax fun dh=> ?_
          refine Bq 13774824197404483331 rfl rfl ?_
          refine A4 fun di=> ?_
          refine Ax fun dj=> ?_
          refine Bq 4575957461383575504 rfl rfl ?_
          refine A4 fun dk=> ?_
          refine Ax fun dl=> ?_
          refine Bq 13818544856648471880 rfl rfl ?_
          refine A4 fun dm=> ?_
          refine Ax fun dn=> ?_
          refine A4 fun dp=> ?_
          refine Gw ?_
          exact C9 hR rfl rfl
      ·refine iq (AV.sc (.int .u64 (E2 .u64 a (7)))) (Hk _ _) ?_
       refine imp Dj ?_
       refine Ax fun dq=> ?_
       refine D6 fun ds=> ?_
       refine Ax fun dt=> ?_
       refine D6 fun du=> ?_
       refine Ax fun dv=> ?_
       refine D6 fun dw=> ?_
       refine Aq (fun _=> ?_) (fun _=> ?_)
       ·refine Ax fun dx=> ?_
        refine Aq (fun _=> ?_) (fun _=> ?_)
        ·refine Ax fun dy=> ?_
         refine D6 fun dz=> ?_
         refine Ax fun ea=> ?_
         refine Bq 13666448263388469915 rfl rfl ?_
         refine Ax fun eb=> ?_
         refine Bq 4477121864728985349 rfl rfl ?_
         refine A4 fun ec=> ?_
         refine Ax fun ed=> ?_
         refine Bq 13732177093698800582 rfl rfl ?_
         refine A4 fun ee=> ?_
         refine Ax fun ef=> ?_
         refine Bq 4537941361668146421 rfl rfl ?_
         refine A4 fun eg=> ?_
         refine Ax fun eh=> ?_
         refine Bq 13787419979223748497 rfl rfl ?_
         refine A4 fun ei=> ?_
         refine Ax fun ej=> ?_
         refine Bq 4586165620538955083 rfl rfl ?_
         refine A4 fun ek=> ?_
         refine Ax fun el=> ?_
         refine A4 fun em=> ?_
         exact C9 hR rfl rfl
        ·refine Aq (fun _=> ?_) (fun _=> ?_)
         ·refine Ax fun en=> ?_
          refine D6 fun eo=> ?_
          refine Ax fun ep=> ?_
          refine Bq 13666448263388469915 rfl rfl ?_
          refine Ax fun eq=> ?_
          refine Bq 4477121864728985349 rfl rfl ?_
          refine A4 fun er=> ?_
          refine Ax fun es=> ?_
          refine Bq 13732177093698800582 rfl rfl ?_
          refine A4 fun et=> ?_
          refine Ax fun eu=> ?_
          refine Bq 4537941361668146421 rfl rfl ?_
          refine A4 fun ev=> ?_
          refine Ax fun ew=> ?_
          refine Bq 13787419979223748497 rfl rfl ?_
          refine A4 fun ex=> ?_
          refine Ax fun ey=> ?_
          refine Bq 4586165620538955083 rfl rfl ?_
          refine A4 fun ez=> ?_
          refine Ax fun fa=> ?_
          refine A4 fun fb=> ?_
          exact C9 hR rfl rfl
         ·refine Ax fun fc=> ?_
          refine Bq 4460209587652500685 rfl rfl ?_
          refine Ax fun fd=> ?_
          refine Bq 13716528389658582877 rfl rfl ?_
          refine A4 fun fe=> ?_
          refine Ax fun ff=> ?_
          refine Bq 4523617212962785441 rfl rfl ?_
          refine A4 fun fg=> ?_
          refine Ax fun fh=> ?_
          refine Bq 13774824197404483331 rfl rfl ?_
          refine A4 fun fi=> ?_
          refine Ax fun fj=> ?_
          refine Bq 4575957461383575504 rfl rfl ?_
          refine A4 fun fk=> ?_
          refine Ax fun fl=> ?_
          refine Bq 13818544856648471880 rfl rfl ?_
          refine A4 fun fm=> ?_
          refine Ax fun fn=> ?_
          refine A4 fun fo=> ?_
          exact C9 hR rfl rfl
       ·refine Ax fun fp=> ?_
        refine Aq (fun _=> ?_) (fun _=> ?_)
        ·refine Ax fun fq=> ?_
         refine D6 fun fr=> ?_
         refine Ax fun fs=> ?_
         refine Bq 13666448263388469915 rfl rfl ?_
         refine Ax fun ft=> ?_
         refine Bq 4477121864728985349 rfl rfl ?_
         refine A4 fun fu=> ?_
         refine Ax fun fv=> ?_
         refine Bq 13732177093698800582 rfl rfl ?_
         refine A4 fun fw=> ?_
         refine Ax fun fx=> ?_
         refine Bq 4537941361668146421 rfl rfl ?_
         refine A4 fun fy=> ?_
         refine Ax fun fz=> ?_
         refine Bq 13787419979223748497 rfl rfl ?_
         refine A4 fun ga=> ?_
         refine Ax fun gb=> ?_
         refine Bq 4586165620538955083 rfl rfl ?_
         refine A4 fun gc=> ?_
         refine Ax fun gd=> ?_
         refine A4 fun ge=> ?_
         refine Gw ?_
         exact C9 hR rfl rfl
        ·refine Aq (fun _=> ?_) (fun _=> ?_)
         ·refine Ax fun gf=> ?_
          refine D6 fun gg=> ?_
          refine Ax fun gh=> ?_
          refine Bq 13666448263388469915 rfl rfl ?_
          refine Ax fun gi=> ?_
          refine Bq 4477121864728985349 rfl rfl ?_
          refine A4 fun gj=> ?_
          refine Ax fun gk=> ?_
          refine Bq 13732177093698800582 rfl rfl ?_
          refine A4 fun gl=> ?_
          refine Ax fun gm=> ?_
          refine Bq 4537941361668146421 rfl rfl ?_
          refine A4 fun gn=> ?_
          refine Ax fun go=> ?_
          refine Bq 13787419979223748497 rfl rfl ?_
          refine A4 fun gp=> ?_
          refine Ax fun gq=> ?_
          refine Bq 4586165620538955083 rfl rfl ?_
          refine A4 fun gr=> ?_
          refine Ax fun gs=> ?_
          refine A4 fun gt=> ?_
          refine Gw ?_
          exact C9 hR rfl rfl
         ·refine Ax fun gu=> ?_
          refine Bq 4460209587652500685 rfl rfl ?_
          refine Ax fun gv=> ?_
          refine Bq 13716528389658582877 rfl rfl ?_
          refine A4 fun gw=> ?_
          refine Ax fun gx=> ?_
          refine Bq 4523617212962785441 rfl rfl ?_
          refine A4 fun gy=> ?_
          refine Ax fun gz=> ?_
          refine Bq 13774824197404483331 rfl rfl ?_
          refine A4 fun ha=> ?_
          refine Ax fun hb=> ?_
          refine Bq 4575957461383575504 rfl rfl ?_
          refine A4 fun hc=> ?_
          refine Ax fun hd=> ?_
          refine Bq 13818544856648471880 rfl rfl ?_
          refine A4 fun he=> ?_
          refine Ax fun hf=> ?_
          refine A4 fun hg=> ?_
          refine Gw ?_
          exact C9 hR rfl rfl
    ·refine Zo ?_
     refine Aq (fun _=> ?_) (fun _=> ?_)
     ·exact fun h=>by cases h
     ·refine Ax fun hh=> ?_
      refine At fun b i=> ?_
      refine iq (AV.sc (.int .u64 b)) (N9 Bi Bi i) ?_
      refine imp Dj ?_
      refine iq (Ci (Jn b)) (K0 Bi Bi) ?_
      refine imp D1 ?_
      refine iq (AV.sc (.int .u64 (E2 .u64 b (1)))) (Hk _ _) ?_
      refine imp Dj ?_
      refine Aq (fun _=> ?_) (fun _=> ?_)
      ·refine A4 fun hi=> ?_
       refine iq (AV.sc (.int .u64 (E2 .u64 (IntKind.wrap .u64 (b+(1))) (7)))) (Hk _ _) ?_
       refine imp Dj ?_
       refine Ax fun hj=> ?_
       refine D6 fun hk=> ?_
       refine Ax fun hl=> ?_
       refine D6 fun hm=> ?_
       refine Ax fun hn=> ?_
       refine D6 fun ho=> ?_
       refine Aq (fun _=> ?_) (fun _=> ?_)
       ·refine Ax fun hp=> ?_
        refine Aq (fun _=> ?_) (fun _=> ?_)
        ·refine Ax fun hq=> ?_
         refine D6 fun hr=> ?_
         refine Ax fun hs=> ?_
         refine Bq 13666448263388469915 rfl rfl ?_
         refine Ax fun ht=> ?_
         refine Bq 4477121864728985349 rfl rfl ?_
         refine A4 fun hu=> ?_
         refine Ax fun hv=> ?_
         refine Bq 13732177093698800582 rfl rfl ?_
         refine A4 fun hw=> ?_
         refine Ax fun hx=> ?_
         refine Bq 4537941361668146421 rfl rfl ?_
         refine A4 fun hy=> ?_
         refine Ax fun hz=> ?_
         refine Bq 13787419979223748497 rfl rfl ?_
         refine A4 fun ia=> ?_
         refine Ax fun ib=> ?_
         refine Bq 4586165620538955083 rfl rfl ?_
         refine A4 fun ic=> ?_
         refine Ax fun id=> ?_
         refine A4 fun ie=> ?_
         refine Gw ?_
         exact C9 hR rfl rfl
        ·refine Aq (fun _=> ?_) (fun _=> ?_)
         ·refine Ax fun ig=> ?_
          refine D6 fun ih=> ?_
          refine Ax fun ii=> ?_
          refine Bq 13666448263388469915 rfl rfl ?_
          refine Ax fun ij=> ?_
          refine Bq 4477121864728985349 rfl rfl ?_
          refine A4 fun ik=> ?_
          refine Ax fun il=> ?_
          refine Bq 13732177093698800582 rfl rfl ?_
          refine A4 fun im=> ?_
          refine Ax fun io=> ?_
          refine Bq 4537941361668146421 rfl rfl ?_
          refine A4 fun ip=> ?_
          refine Ax fun ir=> ?_
          refine Bq 13787419979223748497 rfl rfl ?_
          refine A4 fun it=> ?_
          refine Ax fun iu=> ?_
          refine Bq 4586165620538955083 rfl rfl ?_
          refine A4 fun iv=> ?_
          refine Ax fun iw=> ?_
          refine A4 fun ix=> ?_
          refine Gw ?_
          exact C9 hR rfl rfl
         ·refine Ax fun iy=> ?_
          refine Bq 4460209587652500685 rfl rfl ?_
          refine Ax fun iz=> ?_
          refine Bq 13716528389658582877 rfl rfl ?_
          refine A4 fun ja=> ?_
          refine Ax fun jb=> ?_
          refine Bq 4523617212962785441 rfl rfl ?_
          refine A4 fun jc=> ?_
          refine Ax fun jd=> ?_
          refine Bq 13774824197404483331 rfl rfl ?_
          refine A4 fun je=> ?_
          refine Ax fun jf=> ?_
          refine Bq 4575957461383575504 rfl rfl ?_
          refine A4 fun jg=> ?_
          refine Ax fun jh=> ?_
          refine Bq 13818544856648471880 rfl rfl ?_
          refine A4 fun ji=> ?_
          refine Ax fun jj=> ?_
          refine A4 fun jk=> ?_
          refine Gw ?_
          exact C9 hR rfl rfl
       ·refine Ax fun jl=> ?_
        refine Aq (fun _=> ?_) (fun _=> ?_)
        ·refine Ax fun jm=> ?_
         refine D6 fun jn=> ?_
         refine Ax fun jo=> ?_
         refine Bq 13666448263388469915 rfl rfl ?_
         refine Ax fun jp=> ?_
         refine Bq 4477121864728985349 rfl rfl ?_
         refine A4 fun jq=> ?_
         refine Ax fun jr=> ?_
         refine Bq 13732177093698800582 rfl rfl ?_
         refine A4 fun js=> ?_
         refine Ax fun jt=> ?_
         refine Bq 4537941361668146421 rfl rfl ?_
         refine A4 fun ju=> ?_
         refine Ax fun jv=> ?_
         refine Bq 13787419979223748497 rfl rfl ?_
         refine A4 fun jw=> ?_
         refine Ax fun jx=> ?_
         refine Bq 4586165620538955083 rfl rfl ?_
         refine A4 fun jy=> ?_
         refine Ax fun jz=> ?_
         refine A4 fun ka=> ?_
         exact C9 hR rfl rfl
        ·refine Aq (fun _=> ?_) (fun _=> ?_)
         ·refine Ax fun kb=> ?_
          refine D6 fun kc=> ?_
          refine Ax fun kd=> ?_
          refine Bq 13666448263388469915 rfl rfl ?_
          refine Ax fun ke=> ?_
          refine Bq 4477121864728985349 rfl rfl ?_
          refine A4 fun kf=> ?_
          refine Ax fun kg=> ?_
          refine Bq 13732177093698800582 rfl rfl ?_
          refine A4 fun ki=> ?_
          refine Ax fun kj=> ?_
          refine Bq 4537941361668146421 rfl rfl ?_
          refine A4 fun kk=> ?_
          refine Ax fun kl=> ?_
          refine Bq 13787419979223748497 rfl rfl ?_
          refine A4 fun km=> ?_
          refine Ax fun kn=> ?_
          refine Bq 4586165620538955083 rfl rfl ?_
          refine A4 fun ko=> ?_
          refine Ax fun kp=> ?_
          refine A4 fun kr=> ?_
          exact C9 hR rfl rfl
         ·refine Ax fun ks=> ?_
          refine Bq 4460209587652500685 rfl rfl ?_
          refine Ax fun kt=> ?_
          refine Bq 13716528389658582877 rfl rfl ?_
          refine A4 fun ku=> ?_
          refine Ax fun kv=> ?_
          refine Bq 4523617212962785441 rfl rfl ?_
          refine A4 fun kw=> ?_
          refine Ax fun kx=> ?_
          refine Bq 13774824197404483331 rfl rfl ?_
          refine A4 fun ky=> ?_
          refine Ax fun kz=> ?_
          refine Bq 4575957461383575504 rfl rfl ?_
          refine A4 fun la=> ?_
          refine Ax fun lb=> ?_
          refine Bq 13818544856648471880 rfl rfl ?_
          refine A4 fun lc=> ?_
          refine Ax fun ld=> ?_
          refine A4 fun lf=> ?_
          exact C9 hR rfl rfl
      ·refine iq (AV.sc (.int .u64 (E2 .u64 b (7)))) (Hk _ _) ?_
       refine imp Dj ?_
       refine Ax fun lg=> ?_
       refine D6 fun lh=> ?_
       refine Ax fun li=> ?_
       refine D6 fun lj=> ?_
       refine Ax fun ll=> ?_
       refine D6 fun lm=> ?_
       refine Aq (fun _=> ?_) (fun _=> ?_)
       ·refine Ax fun ln=> ?_
        refine Aq (fun _=> ?_) (fun _=> ?_)
        ·refine Ax fun lo=> ?_
         refine D6 fun lp=> ?_
         refine Ax fun lq=> ?_
         refine Bq 13666448263388469915 rfl rfl ?_
         refine Ax fun lr=> ?_
         refine Bq 4477121864728985349 rfl rfl ?_
         refine A4 fun ls=> ?_
         refine Ax fun lu=> ?_
         refine Bq 13732177093698800582 rfl rfl ?_
         refine A4 fun lv=> ?_
         refine Ax fun lw=> ?_
         refine Bq 4537941361668146421 rfl rfl ?_
         refine A4 fun lx=> ?_
         refine Ax fun ly=> ?_
         refine Bq 13787419979223748497 rfl rfl ?_
         refine A4 fun lz=> ?_
         refine Ax fun ma=> ?_
         refine Bq 4586165620538955083 rfl rfl ?_
         refine A4 fun mb=> ?_
         refine Ax fun mc=> ?_
         refine A4 fun md=> ?_
         refine Gw ?_
         exact C9 hR rfl rfl
        ·refine Aq (fun _=> ?_) (fun _=> ?_)
         ·refine Ax fun me=> ?_
          refine D6 fun mf=> ?_
          refine Ax fun mg=> ?_
          refine Bq 13666448263388469915 rfl rfl ?_
          refine Ax fun mh=> ?_
          refine Bq 4477121864728985349 rfl rfl ?_
          refine A4 fun mi=> ?_
          refine Ax fun mj=> ?_
          refine Bq 13732177093698800582 rfl rfl ?_
          refine A4 fun mk=> ?_
          refine Ax fun ml=> ?_
          refine Bq 4537941361668146421 rfl rfl ?_
          refine A4 fun mm=> ?_
          refine Ax fun mn=> ?_
          refine Bq 13787419979223748497 rfl rfl ?_
          refine A4 fun mo=> ?_
          refine Ax fun mp=> ?_
          refine Bq 4586165620538955083 rfl rfl ?_
          refine A4 fun mq=> ?_
          refine Ax fun mr=> ?_
          refine A4 fun ms=> ?_
          refine Gw ?_
          exact C9 hR rfl rfl
         ·refine Ax fun mt=> ?_
          refine Bq 4460209587652500685 rfl rfl ?_
          refine Ax fun mu=> ?_
          refine Bq 13716528389658582877 rfl rfl ?_
          refine A4 fun mv=> ?_
          refine Ax fun mw=> ?_
          refine Bq 4523617212962785441 rfl rfl ?_
          refine A4 fun mx=> ?_
          refine Ax fun my=> ?_
          refine Bq 13774824197404483331 rfl rfl ?_
          refine A4 fun mz=> ?_
          refine Ax fun na=> ?_
          refine Bq 4575957461383575504 rfl rfl ?_
          refine A4 fun nb=> ?_
          refine Ax fun nc=> ?_
          refine Bq 13818544856648471880 rfl rfl ?_
          refine A4 fun nd=> ?_
          refine Ax fun ne=> ?_
          refine A4 fun ng=> ?_
          refine Gw ?_
          exact C9 hR rfl rfl
       ·refine Ax fun nh=> ?_
        refine Aq (fun _=> ?_) (fun _=> ?_)
        ·refine Ax fun ni=> ?_
         refine D6 fun nj=> ?_
         refine Ax fun nk=> ?_
         refine Bq 13666448263388469915 rfl rfl ?_
         refine Ax fun nl=> ?_
         refine Bq 4477121864728985349 rfl rfl ?_
         refine A4 fun nm=> ?_
         refine Ax fun nn=> ?_
         refine Bq 13732177093698800582 rfl rfl ?_
         refine A4 fun np=> ?_
         refine Ax fun nq=> ?_
         refine Bq 4537941361668146421 rfl rfl ?_
         refine A4 fun nr=> ?_
         refine Ax fun ns=> ?_
         refine Bq 13787419979223748497 rfl rfl ?_
         refine A4 fun nt=> ?_
         refine Ax fun nu=> ?_
         refine Bq 4586165620538955083 rfl rfl ?_
         refine A4 fun nv=> ?_
         refine Ax fun nw=> ?_
         refine A4 fun nx=> ?_
         exact C9 hR rfl rfl
        ·refine Aq (fun _=> ?_) (fun _=> ?_)
         ·refine Ax fun ny=> ?_
          refine D6 fun nz=> ?_
          refine Ax fun oa=> ?_
          refine Bq 13666448263388469915 rfl rfl ?_
          refine Ax fun ob=> ?_
          refine Bq 4477121864728985349 rfl rfl ?_
          refine A4 fun oc=> ?_
          refine Ax fun od=> ?_
          refine Bq 13732177093698800582 rfl rfl ?_
          refine A4 fun oe=> ?_
          refine Ax fun of=> ?_
          refine Bq 4537941361668146421 rfl rfl ?_
          refine A4 fun og=> ?_
          refine Ax fun oh=> ?_
          refine Bq 13787419979223748497 rfl rfl ?_
          refine A4 fun oi=> ?_
          refine Ax fun oj=> ?_
          refine Bq 4586165620538955083 rfl rfl ?_
          refine A4 fun ok=> ?_
          refine Ax fun ol=> ?_
          refine A4 fun om=> ?_
          exact C9 hR rfl rfl
         ·refine Ax fun on=> ?_
          refine Bq 4460209587652500685 rfl rfl ?_
          refine Ax fun oo=> ?_
          refine Bq 13716528389658582877 rfl rfl ?_
          refine A4 fun op=> ?_
          refine Ax fun oq=> ?_
          refine Bq 4523617212962785441 rfl rfl ?_
          refine A4 fun os=> ?_
          refine Ax fun ot=> ?_
          refine Bq 13774824197404483331 rfl rfl ?_
          refine A4 fun ou=> ?_
          refine Ax fun ov=> ?_
          refine Bq 4575957461383575504 rfl rfl ?_
          refine A4 fun ow=> ?_
          refine Ax fun ox=> ?_
          refine Bq 13818544856648471880 rfl rfl ?_
          refine A4 fun oy=> ?_
          refine Ax fun oz=> ?_
          refine A4 fun pa=> ?_
          exact C9 hR rfl rfl
theorem Ads {n:Nat} {a:Nat} {t:cL} (h:h9 n a=some t):Dc pg KK.gl 101 [Ci a] ((Ci t)):=
 A1 (by first|rfl|simp [Av,clean,Al,En.Di]) (by first|rfl|simp [Av,clean,Al,En.Di]) (mC a _ (tJ n a (C2 ((Ci t))) (fun r e u m h=>by rw [e];exact h) h))
end Go.Proofs.YtmhnnmfcjdnlhaaGreatDoor
