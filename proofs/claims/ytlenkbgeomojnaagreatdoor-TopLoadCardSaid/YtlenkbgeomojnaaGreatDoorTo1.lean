/- Peaks of numbers that depend on a time and a place; the same numbers later. -/
import Derived.Test.YtlenkbgeomojnaaGreatDoorTab9
set_option linter.unusedVariables false
set_option linter.unusedSimpArgs false
namespace Go.Proofs.YtlenkbgeomojnaaGreatDoor
section
variable (c:Int→Nat→Int) (m:Nat) (F:Int)
def pkU (t:Int) (w:Nat) (s:(Nat→Int)×(Nat→Int)):(Nat→Int)×(Nat→Int):=
 (fun i=>if i<w∧c t i>s.1 i then c t i else s.1 i,fun i=>if i<w∧c t i>s.1 i then t else s.2 i)
def pk:Nat→(Nat→Int)×(Nat→Int)
 |0=>(fun _=>0,fun _=>F)
 |k+1=>pkU c (F+(k:Int)) m (pk k)
theorem pkU_zero (t:Int) (s:(Nat→Int)×(Nat→Int)):pkU c t 0 s=s:=by
 unfold pkU
 simp
end
theorem pk_shift (c c':Int→Nat→Int) (m:Nat) (F d:Int) (h:∀t i,c' (t+d) i=c t i):∀k:Nat,pk c' m (F+d) k=((pk c m F k).1,fun i=>(pk c m F k).2 i+d)
 |0=>rfl
 |k+1=>by
  show pkU c' (F+d+(k:Int)) m (pk c' m (F+d) k)=((pkU c (F+(k:Int)) m (pk c m F k)).1,fun i=>(pkU c (F+(k:Int)) m (pk c m F k)).2 i+d)
  rw [pk_shift c c' m F d h k,show F+d+(k:Int)=F+(k:Int)+d by omega]
  unfold pkU
  simp only [h]
  congr 1
  funext i
  split<;>rfl
end Go.Proofs.YtlenkbgeomojnaaGreatDoor
