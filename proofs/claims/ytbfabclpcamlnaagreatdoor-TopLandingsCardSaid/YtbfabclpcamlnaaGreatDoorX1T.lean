/- A part. -/
import Derived.Test.YtbfabclpcamlnaaGreatDoorPJ
import Derived.Test.YtbfabclpcamlnaaGreatDoorPQ
import Derived.KernelRfl
set_option linter.unusedVariables false
set_option linter.unusedSimpArgs false
namespace Go.Proofs.YtbfabclpcamlnaaGreatDoor
def glb : Nat → Option (List AV) := fun g => match g with | 0 => some [Aa 60000, Aa 4095, Aa 400] | 1 => some [C6 ⟨#[72, 69, 73, 71, 72, 84]⟩, C6 ⟨#[72, 69, 65, 68, 73, 78, 71]⟩, C6 ⟨#[83, 80, 69, 69, 68]⟩, C6 ⟨#[68, 73, 82, 69, 67, 84]⟩, C6 ⟨#[72, 79, 76, 68]⟩, C6 ⟨#[67, 79, 78, 84, 65, 67, 84]⟩, C6 ⟨#[76, 65, 78, 68]⟩] | 6 => some [AV.sc (.int .u64 1), AV.sc (.int .u64 10), AV.sc (.int .u64 100), AV.sc (.int .u64 1000), AV.sc (.int .u64 10000), AV.sc (.int .u64 100000), AV.sc (.int .u64 1000000), AV.sc (.int .u64 10000000), AV.sc (.int .u64 100000000), AV.sc (.int .u64 1000000000), AV.sc (.int .u64 10000000000), AV.sc (.int .u64 100000000000), AV.sc (.int .u64 1000000000000), AV.sc (.int .u64 10000000000000), AV.sc (.int .u64 100000000000000), AV.sc (.int .u64 1000000000000000), AV.sc (.int .u64 10000000000000000), AV.sc (.int .u64 100000000000000000), AV.sc (.int .u64 1000000000000000000), AV.sc (.int .u64 10000000000000000000)] | 9 => some [AV.sc (.float .f64 13666448263388469915), AV.sc (.float .f64 4477121864728985349), AV.sc (.float .f64 13732177093698800582), AV.sc (.float .f64 4537941361668146421), AV.sc (.float .f64 13787419979223748497), AV.sc (.float .f64 4586165620538955083)] | 10 => some [AV.sc (.float .f64 4460209587652500685), AV.sc (.float .f64 13716528389658582877), AV.sc (.float .f64 4523617212962785441), AV.sc (.float .f64 13774824197404483331), AV.sc (.float .f64 4575957461383575504), AV.sc (.float .f64 13818544856648471880)] | _ => none
def Agr (g : Nat) : AV := match glb g with | some cs => .B8 cs 0 | none => .D7
noncomputable abbrev pg : Program := Tryz.prog
theorem Ee : Tryz.prog.follows .mixedOrders = true := by kernel_rfl
def Ad4 : List Nat := [3, 4, 5, 7, 8, 12, 13, 14, 15, 16, 17, 18, 19, 20, 21, 22, 23, 24, 25, 26, 27, 28, 29, 30, 31, 32, 33, 34, 35, 36, 37, 38, 39, 42, 43, 44, 45, 46, 47, 48, 49, 50, 51, 52, 55, 56, 57, 58, 61, 62, 63, 64, 65, 66, 69, 70, 71, 72, 73, 75, 78, 81, 83, 84, 85, 88, 89, 90, 91, 94, 95, 96, 97, 99, 100, 102, 103, 104, 105, 106, 107, 108, 109, 112, 114, 115, 117, 119, 121, 123, 124, 125, 131, 132, 133, 134, 135, 136, 137, 138, 140, 141, 142, 143, 144, 145, 146, 148, 149, 150, 153, 154, 155, 157, 160, 161, 162, 164, 165, 178, 184, 185, 186, 188, 190, 191, 192, 193, 194, 195, 198, 199, 200, 201, 202, 203, 212, 222, 223, 224, 255, 256, 257, 258, 259, 261, 262, 263, 264, 265, 272, 273, 274, 275, 296, 297, 298, 301, 302, 303, 304, 316, 317, 318, 319, 320, 321, 322, 323, 324, 325, 326, 329, 330, 331, 332, 333, 337, 338, 339, 340]
def KK : H0 := ⟨fun f => Ad4.contains f, glb⟩
def KF : H0 := ⟨fun _ => false, glb⟩
structure Ad where
  Call : ByteArray
  Bc : Int
  Time : Int
  Bs : Int
  deriving DecidableEq
def Ad.E : En Ad where
  size := 4
  enc m := [C6 m.Call, Aa m.Bc, Aa m.Time, Aa m.Bs]
  len _ := rfl
  pos := by decide
  cell _ := rfl
  Di _ := rfl
  R1 _ := rfl
theorem Ad.nf : H2 Ad.E := by
  intro x c hc f l
  simp only [Ad.E, List.mem_cons, List.not_mem_nil, or_false] at hc
  rcases hc with rfl | rfl | rfl | rfl <;> exact (fun h => by cases h)
structure Ao where
  Cf : Int
  Ce : Int
  Ci : Int
  Cn : Int
  Cd : Int
  Cl : Int
  Cr : Int
  Co : Int
  Cm : Int
  Ck : Int
  Ch : Int
  Cg : Int
  Cb : Int
  Cj : Int
  Cq : Int
  Cp : Int
  deriving DecidableEq
def Ao.E : En Ao where
  size := 16
  enc m := [Aa m.Cf, Aa m.Ce, Aa m.Ci, Aa m.Cn, Aa m.Cd, Aa m.Cl, Aa m.Cr, Aa m.Co, Aa m.Cm, Aa m.Ck, Aa m.Ch, Aa m.Cg, Aa m.Cb, Aa m.Cj, Aa m.Cq, Aa m.Cp]
  len _ := rfl
  pos := by decide
  cell _ := rfl
  Di _ := rfl
  R1 _ := rfl
theorem Ao.nf : H2 Ao.E := by
  intro x c hc f l
  simp only [Ao.E, List.mem_cons, List.not_mem_nil, or_false] at hc
  rcases hc with rfl | rfl | rfl | rfl | rfl | rfl | rfl | rfl | rfl | rfl | rfl | rfl | rfl | rfl | rfl | rfl <;> exact (fun h => by cases h)
structure Dw where
  c0 : Int
  c1 : Int
  c2 : Int
  c3 : Int
  deriving DecidableEq
def Dw.E : En Dw where
  size := 4
  enc m := [Aa m.c0, Aa m.c1, Aa m.c2, Aa m.c3]
  len _ := rfl
  pos := by decide
  cell _ := rfl
  Di _ := rfl
  R1 _ := rfl
theorem Dw.nf : H2 Dw.E := by
  intro x c hc f l
  simp only [Dw.E, List.mem_cons, List.not_mem_nil, or_false] at hc
  rcases hc with rfl | rfl | rfl | rfl <;> exact (fun h => by cases h)
structure G7 where
  Dg : Int
  C0 : Int
  deriving DecidableEq
def G7.E : En G7 where
  size := 2
  enc m := [Aa m.Dg, Aa m.C0]
  len _ := rfl
  pos := by decide
  cell _ := rfl
  Di _ := rfl
  R1 _ := rfl
theorem G7.nf : H2 G7.E := by
  intro x c hc f l
  simp only [G7.E, List.mem_cons, List.not_mem_nil, or_false] at hc
  rcases hc with rfl | rfl <;> exact (fun h => by cases h)
structure Ag where
  Ar : Int
  A8 : Int
  A7 : Int
  Ap : Int
  Bn : Int
  C5 : Int
  deriving DecidableEq
def Ag.E : En Ag where
  size := 6
  enc m := [Aa m.Ar, Aa m.A8, Aa m.A7, Aa m.Ap, Aa m.Bn, Aa m.C5]
  len _ := rfl
  pos := by decide
  cell _ := rfl
  Di _ := rfl
  R1 _ := rfl
theorem Ag.nf : H2 Ag.E := by
  intro x c hc f l
  simp only [Ag.E, List.mem_cons, List.not_mem_nil, or_false] at hc
  rcases hc with rfl | rfl | rfl | rfl | rfl | rfl <;> exact (fun h => by cases h)
structure TP where
  X : Int
  Y : Int
  deriving DecidableEq
def TP.E : En TP where
  size := 2
  enc m := [Aa m.X, Aa m.Y]
  len _ := rfl
  pos := by decide
  cell _ := rfl
  Di _ := rfl
  R1 _ := rfl
theorem TP.nf : H2 TP.E := by
  intro x c hc f l
  simp only [TP.E, List.mem_cons, List.not_mem_nil, or_false] at hc
  rcases hc with rfl | rfl <;> exact (fun h => by cases h)
structure Bm where
  B6 : Int
  To : Int
  deriving DecidableEq
def Bm.E : En Bm where
  size := 2
  enc m := [Aa m.B6, Aa m.To]
  len _ := rfl
  pos := by decide
  cell _ := rfl
  Di _ := rfl
  R1 _ := rfl
theorem Bm.nf : H2 Bm.E := by
  intro x c hc f l
  simp only [Bm.E, List.mem_cons, List.not_mem_nil, or_false] at hc
  rcases hc with rfl | rfl <;> exact (fun h => by cases h)
structure Av where
  Time : Int
  Bc : Int
  deriving DecidableEq
def Av.E : En Av where
  size := 2
  enc m := [Aa m.Time, Aa m.Bc]
  len _ := rfl
  pos := by decide
  cell _ := rfl
  Di _ := rfl
  R1 _ := rfl
theorem Av.nf : H2 Av.E := by
  intro x c hc f l
  simp only [Av.E, List.mem_cons, List.not_mem_nil, or_false] at hc
  rcases hc with rfl | rfl <;> exact (fun h => by cases h)
structure Ab where
  Time : Int
  Bc : Int
  Bd : Bool
  End : Int
  deriving DecidableEq
def Ab.E : En Ab where
  size := 4
  enc m := [Aa m.Time, Aa m.Bc, Ac m.Bd, Aa m.End]
  len _ := rfl
  pos := by decide
  cell _ := rfl
  Di _ := rfl
  R1 _ := rfl
theorem Ab.nf : H2 Ab.E := by
  intro x c hc f l
  simp only [Ab.E, List.mem_cons, List.not_mem_nil, or_false] at hc
  rcases hc with rfl | rfl | rfl | rfl <;> exact (fun h => by cases h)
structure Ah where
  B6 : Int
  End : Int
  deriving DecidableEq
def Ah.E : En Ah where
  size := 2
  enc m := [Aa m.B6, Aa m.End]
  len _ := rfl
  pos := by decide
  cell _ := rfl
  Di _ := rfl
  R1 _ := rfl
theorem Ah.nf : H2 Ah.E := by
  intro x c hc f l
  simp only [Ah.E, List.mem_cons, List.not_mem_nil, or_false] at hc
  rcases hc with rfl | rfl <;> exact (fun h => by cases h)
theorem Ab.Adm (x y : Ab) {ty n : Nat} {look : Nat → Option Bi} : B9 Tryz.prog (.binOp .neq 37 (.tmp 0) (.tmp 1) 37) ty [.agg [(Aa x.Time), (Aa x.Bc), (Ac x.Bd), (Aa x.End)], .agg [(Aa y.Time), (Aa y.Bc), (Ac y.Bd), (Aa y.End)]] look n = some (Ac (!(decide (x = y))), []) :=
  j5 (xs := [.int .i64 x.Time, .int .i64 x.Bc, .bool x.Bd, .int .i64 x.End]) (ys := [.int .i64 y.Time, .int .i64 y.Bc, .bool y.Bd, .int .i64 y.End]) (by kernel_rfl) (by kernel_rfl) (by kernel_rfl) (fW Tryz.underlying37 (by kernel_rfl) (M7 (a := .int .i64 x.Time) (b := .int .i64 y.Time) (by decide) (by kernel_rfl) (by kernel_rfl) (eq_int Tryz.underlying3) (M7 (a := .int .i64 x.Bc) (b := .int .i64 y.Bc) (by decide) (by kernel_rfl) (by kernel_rfl) (eq_int Tryz.underlying3) (M7 (a := .bool x.Bd) (b := .bool y.Bd) (by decide) (by kernel_rfl) (by kernel_rfl) (sL Tryz.underlying4) (M7 (a := .int .i64 x.End) (b := .int .i64 y.End) (by decide) (by kernel_rfl) (by kernel_rfl) (eq_int Tryz.underlying3) sU))))) (by cases x; cases y; rw [Bool.eq_iff_iff]; simp [Afr, and_assoc, or_assoc])
end Go.Proofs.YtbfabclpcamlnaaGreatDoor
