/- A part. -/
import Derived.Test.YtmechmjjcgdpdaaGreatDoorMath2
import Derived.Test.YtmechmjjcgdpdaaGreatDoorPT
set_option linter.unusedVariables false
set_option linter.unusedSimpArgs false
namespace Go.Proofs.YtmechmjjcgdpdaaGreatDoor
theorem lL:∀a b:List UInt8,Op.bytesLess a b=true↔a<b
 |_,[]=>by simp [Op.bytesLess]
 |[],b::y=>by simp [Op.bytesLess]
 |a::x,b::y=>by
  rw [List.cons_lt_cons_iff,← lL x y]
  simp [Op.bytesLess]
theorem Lh (s:ByteArray):C8 s=s.toList:=by rw [ByteArray.toList_eq];rfl
theorem oN (a b:ByteArray):C8 a≤C8 b↔Op.bytesLess b.toList a.toList=false:=by
 rw [← List.not_lt,Lh,Lh,← lL]
 cases Op.bytesLess b.toList a.toList<;>simp
theorem yH {k c:List ByteArray} (hp:k.Perm c) (hs:c.Pairwise fun a b=>Op.bytesLess b.toList a.toList=false):Dr k=c:=by
 unfold Dr
 have h1:((k.map C8).mergeSort fun x y=>decide (x≤y))=c.map C8:=by
  refine Hi (R:=fun x y:List UInt8=>x≤y) (fun x _ y _ h h'=>List.le_antisymm h h') ((List.mergeSort_perm _ _).trans (hp.map _)) ?_ ?_
  ·have:=List.pairwise_mergeSort (le:=fun x y:List UInt8=>decide (x≤y)) (fun a b c h1 h2=>decide_eq_true (List.le_trans (of_decide_eq_true h1) (of_decide_eq_true h2))) (fun a b=>by
    rcases List.le_total a b with h|h<;>simp [h]) (k.map C8)
   exact this.imp fun h=>of_decide_eq_true h
  ·rw [List.pairwise_map]
   exact hs.imp fun h=>(oN _ _).2 h
 rw [h1,List.map_map]
 have:Gp ∘ C8=id:=by funext s;exact S4 s
 rw [this,List.map_id]
theorem Ox (k:List ByteArray):(Dr k).Pairwise fun a b=>Op.bytesLess b.toList a.toList=false:=by
 unfold Dr
 rw [List.pairwise_map]
 have:=List.pairwise_mergeSort (le:=fun x y:List UInt8=>decide (x≤y)) (fun a b c h1 h2=>decide_eq_true (List.le_trans (of_decide_eq_true h1) (of_decide_eq_true h2))) (fun a b=>by
    rcases List.le_total a b with h|h<;>simp [h]) (k.map C8)
 refine this.imp fun {a b} h=> ?_
 rw [← oN,S2,S2]
 exact of_decide_eq_true h
end Go.Proofs.YtmechmjjcgdpdaaGreatDoor
