/- A part. -/
import Derived.Test.YtmhnnmfcjdnlhaaGreatDoorSn1
import Derived.Test.YtmhnnmfcjdnlhaaGreatDoorSn2
set_option linter.unusedVariables false
set_option linter.unusedSimpArgs false
set_option maxRecDepth 100000
namespace Go.Proofs.YtmhnnmfcjdnlhaaGreatDoor
theorem J7 (n:Nat) (a:Int):∃m:Nat,Zi n a=some (m:Int)∧m<4096:=by
 unfold Zi
 have h1: -4096<Int.tmod a 4096∧Int.tmod a 4096<4096:=by
  have:=Int.tmod_lt_of_pos a (show (0:Int)<4096 by decide)
  have h2:=Int.tmod_lt_of_pos (-a) (show (0:Int)<4096 by decide)
  rw [Int.neg_tmod] at h2
  omega
 generalize Int.tmod a 4096=t at*
 have h3:Int.tmod (t+4096) 4096=(t+4096) % 4096:=Int.tmod_eq_emod_of_nonneg (by omega)
 rw [wrap64 (z:=t+4096) (by omega) (by omega),h3]
 have e:(((t+4096) % 4096).toNat:Int)=(t+4096) % 4096:=by omega
 exact ⟨((t+4096) % 4096).toNat,by rw [e],by omega⟩
theorem Np (n:Nat) (h:Int):∃z:Int,xT n h=some z∧-268435456≤z∧z≤268435456:=by
 obtain ⟨m,hm,hm2⟩:=J7 n h
 unfold xT g92
 rw [hm,Option.bind_some]
 have hz:=Adn m hm2
 unfold zOk xO at hz
 obtain ⟨i1,i2⟩:=U4 (z:=(m:Int)) (e:=12) (by show m<2 ^ 12;omega) (by decide)
 obtain ⟨x1,e1,f1,s1⟩:=U3 i1 (D0 4614256656552045848 (by decide)) (by decide) (by decide)
 have s1:=s1 (i2 (by omega)) (by decide)
 have lg:Nat.log2 4503599627370496=52:=by decide+kernel
 obtain ⟨x2,e2,f2,s2⟩:=L8 f1 (y:=4656722014701092864) (t:=false) (n:=4503599627370496) (j:=1033) (lo:=11) (by decide+kernel) (by decide) (by omega) (by decide) (by decide)
 have s2:=s2 s1 rfl
 rw [e1,Option.bind_some,e2,Option.bind_some] at hz
 rw [e1,Option.bind_some,e2,Option.bind_some]
 obtain ⟨z,hzr⟩:∃z,zrO x2=some z:=by
  cases q:zrO x2 with
  |none=>rw [q] at hz;cases hz
  |some z=>exact ⟨z,rfl⟩
 have hzf:C3 z 0:=by
  rw [hzr] at hz
  simp only [Bool.and_eq_true] at hz
  have q1:=Nat.le_of_ble_eq_true hz.1
  have q2:=Nat.le_of_ble_eq_true hz.2
  exact ⟨q1,by omega,by decide,by decide⟩
 obtain ⟨r,hr,hrf⟩:=rW n f2 (by decide) s2 hzr hzf
 rw [hr,Option.bind_some,Option.bind_some]
 obtain ⟨x3,e3,f3,-⟩:=U3 (D0 4670232813583204352 (by decide)) hrf (by decide) (by decide)
 rw [e3,Option.bind_some]
 obtain ⟨x4,e4,f4⟩:=fT n f3 (by decide) (by decide)
 rw [e4,Option.bind_some]
 obtain ⟨w,e5,f5,-⟩:=bP f4 (e:=27) (by decide) .i64 (.inr rfl) (by decide)
 rw [e5,Option.bind_some]
 refine ⟨w,rfl,?_⟩
 have:(2:Nat) ^ (27+1)=268435456:=by decide
 rw [this] at f5
 omega
end Go.Proofs.YtmhnnmfcjdnlhaaGreatDoor
