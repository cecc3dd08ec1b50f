/- slices.Insert: a run over the two blocks alone, and what it is to the caller. -/
import Derived.Test.YteaimbiojpjneaaGreatDoorPG
import Derived.KernelRfl
set_option linter.unusedVariables false
set_option linter.unusedSimpArgs false
namespace Go.Proofs.YteaimbiojpjneaaGreatDoor
open Go.RowKit

section
variable {α : Type} {E : En α} {P : Program} {K : Cfg} {gl : Nat → Option (List AV)}
/- a block that is given up -/
/- the operations of Insert -/
def insO {α : Type} (by_ : Nat) (l : List α) (i : Int) (xs : List α) : Option (List α) := if 0 ≤ i ∧ i ≤ l.length ∧ 0 < xs.length ∧ (l.length + xs.length) * by_ ≤ 140737488355328 ∧ l.length + xs.length ≤ 4611686018427387904 then some (l.take i.toNat ++ xs ++ l.drop i.toNat) else none
def insTxt (P : Program) (gl : Nat → Option (List AV)) (t ti e sz by_ fo : Nat) (zs : List AV) (rest : Int → Int → AV → Prop) (a0 : AV) (a1 : Int) (a2 : AV) (m : Mem) (R : AV → Mem → Prop) : Prop :=
    opP (opA P (.slice t (.tmp 0) (some (.tmp 1)) none none) t [a0, (AV.sc (.int .i64 a1))] (mget m) 5) fun v0 =>
    opP (lenS a2) fun v1 =>
    ex_i64 v1 fun z2 =>
    bif (z2 == (0)) then (
    retL R m [some a0]) else (
    opP (lenS a0) fun v3 =>
    ex_i64 v3 fun z4 =>
    bif (a1 == z4) then (
    opN (app (mget m) e sz by_ zs 19 a0 a2) m fun v5 m5 =>
    retL R m5 [some v5]) else (
    opP (opA P (.call ⟨.builtin .cap, #[.tmp 0], #[t]⟩) ti [a0] (mget m) 21) fun v6 =>
    ex_i64 v6 fun z7 =>
    bif (decide ((IntKind.wrap .i64 (z4 + z2)) > z7)) then (
    opP (opA P (.slice t (.tmp 0) none (some (.tmp 1)) none) t [a0, (AV.sc (.int .i64 a1))] (mget m) 25) fun v8 =>
    opN (opA P (.call ⟨.builtin .append, #[.tmp 0, .tmp 1], #[t, ti]⟩) t [v8, (AV.sc (.int .i64 (IntKind.wrap .i64 ((IntKind.wrap .i64 (z4 + z2)) - a1))))] (mget m) 31) m fun v9 m9 =>
    opP (opA P (.slice t (.tmp 0) (some (.tmp 1)) none none) t [v9, (AV.sc (.int .i64 a1))] (mget m9) 35) fun v10 =>
    opN (opA P (.call ⟨.builtin .copy, #[.tmp 0, .tmp 1], #[t, t]⟩) ti [v10, a2] (mget m9) 37) m9 fun v11 m11 =>
    ex_i64 v11 fun z12 =>
    opM (opA P (.slice t (.tmp 0) (some (.tmp 1)) none none) t [v9, (AV.sc (.int .i64 (IntKind.wrap .i64 (a1 + z2))))] (look' m11 (topId v9 ++ (topId (AV.sc (.int .i64 (IntKind.wrap .i64 (a1 + z2)))) ++ ([])))) 42) fun v13 d13 =>
    opM (opA P (.slice t (.tmp 0) (some (.tmp 1)) none none) t [a0, (AV.sc (.int .i64 a1))] (look' (mpushs m11 d13) (topId a0 ++ (topId (AV.sc (.int .i64 a1)) ++ ([])))) 45) fun v14 d14 =>
    opM (opA P (.call ⟨.builtin .copy, #[.tmp 0, .tmp 1], #[t, t]⟩) ti [v13, v14] (look' (mpushs (mpushs m11 d13) d14) (topId v13 ++ (topId v14 ++ ([])))) 46) fun v15 d15 =>
    ex_i64 v15 fun z16 =>
    chk (confOk [0, 0, 0, 6, 15, 0, 0, 96, 255] [⟨[], []⟩, ⟨[], []⟩, ⟨[], []⟩, ⟨[], []⟩, ⟨d13, (topId v9 ++ (topId (AV.sc (.int .i64 (IntKind.wrap .i64 (a1 + z2)))) ++ ([])))⟩, ⟨[], []⟩, ⟨[], []⟩, ⟨d14, (topId a0 ++ (topId (AV.sc (.int .i64 a1)) ++ ([])))⟩, ⟨d15, (topId v13 ++ (topId v14 ++ ([])))⟩]) (retL R (mpushs (mpushs (mpushs m11 d13) d14) d15) [some v9])) else (
    opP (opA P (.slice t (.tmp 0) none (some (.tmp 1)) none) t [a0, (AV.sc (.int .i64 (IntKind.wrap .i64 (z4 + z2))))] (mget m) 27) fun v17 =>
    opP (opA P (.slice t (.tmp 0) (some (.tmp 1)) none none) t [v17, (AV.sc (.int .i64 (IntKind.wrap .i64 (a1 + z2))))] (mget m) 34) fun v18 =>
    callQ P gl m fo [a2, v18] fun v19 =>
    exB v19 fun b20 =>
    bif (!b20) then (
    opM (opA P (.slice t (.tmp 0) (some (.tmp 1)) none none) t [v17, (AV.sc (.int .i64 (IntKind.wrap .i64 (a1 + z2))))] (look' m (topId v17 ++ (topId (AV.sc (.int .i64 (IntKind.wrap .i64 (a1 + z2)))) ++ ([])))) 104) fun v21 d21 =>
    opM (opA P (.slice t (.tmp 0) (some (.tmp 1)) none none) t [v17, (AV.sc (.int .i64 a1))] (look' (mpushs m d21) (topId v17 ++ (topId (AV.sc (.int .i64 a1)) ++ ([])))) 107) fun v22 d22 =>
    opM (opA P (.call ⟨.builtin .copy, #[.tmp 0, .tmp 1], #[t, t]⟩) ti [v21, v22] (look' (mpushs (mpushs m d21) d22) (topId v21 ++ (topId v22 ++ ([])))) 108) fun v23 d23 =>
    ex_i64 v23 fun z24 =>
    chk (confOk [0, 0, 0, 6, 15, 0, 0, 96, 255] [⟨[], []⟩, ⟨[], []⟩, ⟨[], []⟩, ⟨[], []⟩, ⟨d21, (topId v17 ++ (topId (AV.sc (.int .i64 (IntKind.wrap .i64 (a1 + z2)))) ++ ([])))⟩, ⟨[], []⟩, ⟨[], []⟩, ⟨d22, (topId v17 ++ (topId (AV.sc (.int .i64 a1)) ++ ([])))⟩, ⟨d23, (topId v21 ++ (topId v22 ++ ([])))⟩]) (opP (opA P (.slice t (.tmp 0) (some (.tmp 1)) none none) t [v17, (AV.sc (.int .i64 a1))] (mget (mpushs (mpushs (mpushs m d21) d22) d23)) 111) fun v25 =>
    opN (opA P (.call ⟨.builtin .copy, #[.tmp 0, .tmp 1], #[t, t]⟩) ti [v25, a2] (mget (mpushs (mpushs (mpushs m d21) d22) d23)) 113) (mpushs (mpushs (mpushs m d21) d22) d23) fun v26 m26 =>
    ex_i64 v26 fun z27 =>
    retL R m26 [some v17])) else (rest z2 z4 v17))))
def insTxt1 (P : Program) (t e sz by_ : Nat) (zs : List AV) (rest : Int → Int → Prop) (a0 : AV) (a1 : Int) (a2 : AV) (m : Mem) (R : AV → Mem → Prop) : Prop :=
    opP (opA P (.slice t (.tmp 0) (some (.tmp 1)) none none) t [a0, (AV.sc (.int .i64 a1))] (mget m) 4) fun v0 =>
    opP (lenS a2) fun v1 =>
    ex_i64 v1 fun z2 =>
    bif (z2 == (0)) then (
    retL R m [some a0]) else (
    opP (lenS a0) fun v3 =>
    ex_i64 v3 fun z4 =>
    bif (a1 == z4) then (
    opN (app (mget m) e sz by_ zs 18 a0 a2) m fun v5 m5 =>
    retL R m5 [some v5]) else (rest z2 z4))
/- a slice of the run's own that may be cut to nothing -/
def ownW (E : En α) (id : Nat) (l : List α) : AV := match l with
  | [] => .lst 0 [] false
  | _ :: _ => .sl id 0 E.size l.length l.length false
end
end Go.Proofs.YteaimbiojpjneaaGreatDoor
