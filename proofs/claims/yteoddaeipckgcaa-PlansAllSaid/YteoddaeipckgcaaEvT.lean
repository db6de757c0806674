import Derived.Test.YteoddaeipckgcaaEvS
import Derived.Test.YteoddaeipckgcaaProg
import Derived.KernelRfl
namespace Go.Proofs.Yteoddaeipckgcaa.Ev
open Go Go.RowKit
set_option linter.unusedSimpArgs false
set_option maxRecDepth 100000
def ty2 : TI := { k := .int .i64, size := 1, bytes := 8, zero := [.t (.int .i64 0)], cmp := false }
theorem ok2 : TIOk Try.prog 2 ty2 where
  info := ⟨Try.t2, .int .i64 0, by kernel_rfl, by kernel_rfl, by kernel_rfl, by kernel_rfl, by first | trivial | (simp [All2, zeroR, ty2, Value.cells]; done), fun h => by cases h⟩
  zlen := rfl
  kind := ⟨_, Try.underlying2, rfl⟩
  flds := fun fields h => by rw [Try.underlying2] at h; cases h
  elt := fun n e h => by rw [Try.underlying2] at h; cases h
  cmp := fun h => by cases h
def ty3 : TI := { k := .int .i64, size := 1, bytes := 8, zero := [.t (.int .i64 0)], cmp := false }
theorem ok3 : TIOk Try.prog 3 ty3 where
  info := ⟨Try.t3, .int .i64 0, by kernel_rfl, by kernel_rfl, by kernel_rfl, by kernel_rfl, by first | trivial | (simp [All2, zeroR, ty3, Value.cells]; done), fun h => by cases h⟩
  zlen := rfl
  kind := ⟨_, Try.underlying3, rfl⟩
  flds := fun fields h => by rw [Try.underlying3] at h; cases h
  elt := fun n e h => by rw [Try.underlying3] at h; cases h
  cmp := fun h => by cases h
def ty4 : TI := { k := .bool, size := 1, bytes := 1, zero := [.t (.bool false)], cmp := false }
theorem ok4 : TIOk Try.prog 4 ty4 where
  info := ⟨Try.t4, .bool false, by kernel_rfl, by kernel_rfl, by kernel_rfl, by kernel_rfl, by first | trivial | (simp [All2, zeroR, ty4, Value.cells]; done), fun h => by cases h⟩
  zlen := rfl
  kind := ⟨_, Try.underlying4, rfl⟩
  flds := fun fields h => by rw [Try.underlying4] at h; cases h
  elt := fun n e h => by rw [Try.underlying4] at h; cases h
  cmp := fun h => by cases h
def ty5 : TI := { k := .int .u8, size := 1, bytes := 1, zero := [.t (.int .u8 0)], cmp := false }
theorem ok5 : TIOk Try.prog 5 ty5 where
  info := ⟨Try.t5, .int .u8 0, by kernel_rfl, by kernel_rfl, by kernel_rfl, by kernel_rfl, by first | trivial | (simp [All2, zeroR, ty5, Value.cells]; done), fun h => by cases h⟩
  zlen := rfl
  kind := ⟨_, Try.underlying5, rfl⟩
  flds := fun fields h => by rw [Try.underlying5] at h; cases h
  elt := fun n e h => by rw [Try.underlying5] at h; cases h
  cmp := fun h => by cases h
def ty9 : TI := { k := .str, size := 1, bytes := 16, zero := [.t (.str "".toUTF8)], cmp := false }
theorem ok9 : TIOk Try.prog 9 ty9 where
  info := ⟨Try.t9, .string "".toUTF8, by kernel_rfl, by kernel_rfl, by kernel_rfl, by kernel_rfl, by first | trivial | (simp [All2, zeroR, ty9, Value.cells]; done), fun h => by cases h⟩
  zlen := rfl
  kind := ⟨_, Try.underlying9, rfl⟩
  flds := fun fields h => by rw [Try.underlying9] at h; cases h
  elt := fun n e h => by rw [Try.underlying9] at h; cases h
  cmp := fun h => by cases h
def ty12 : TI := { k := .int .u64, size := 1, bytes := 8, zero := [.t (.int .u64 0)], cmp := false }
theorem ok12 : TIOk Try.prog 12 ty12 where
  info := ⟨Try.t12, .int .u64 0, by kernel_rfl, by kernel_rfl, by kernel_rfl, by kernel_rfl, by first | trivial | (simp [All2, zeroR, ty12, Value.cells]; done), fun h => by cases h⟩
  zlen := rfl
  kind := ⟨_, Try.underlying12, rfl⟩
  flds := fun fields h => by rw [Try.underlying12] at h; cases h
  elt := fun n e h => by rw [Try.underlying12] at h; cases h
  cmp := fun h => by cases h
def ty19 : TI := { k := .struct [(17, 0)], size := 1, bytes := 8, zero := [.t .nilp], cmp := false }
theorem ok19 : TIOk Try.prog 19 ty19 where
  info := ⟨Try.t19, .agg #[.pointer none], by kernel_rfl, by kernel_rfl, by kernel_rfl, by kernel_rfl, by first | trivial | (simp [All2, zeroR, ty19, Value.cells]; done), fun _ => ⟨_, rfl⟩⟩
  zlen := rfl
  kind := ⟨_, Try.underlying19, ⟨_, rfl, rfl, by kernel_rfl⟩⟩
  flds := fun fields h => by rw [Try.underlying19] at h; cases h; kernel_rfl
  elt := fun n e h => by rw [Try.underlying19] at h; cases h
  cmp := fun h => by cases h
def ty21 : TI := { k := .int .i32, size := 1, bytes := 4, zero := [.t (.int .i32 0)], cmp := false }
theorem ok21 : TIOk Try.prog 21 ty21 where
  info := ⟨Try.t21, .int .i32 0, by kernel_rfl, by kernel_rfl, by kernel_rfl, by kernel_rfl, by first | trivial | (simp [All2, zeroR, ty21, Value.cells]; done), fun h => by cases h⟩
  zlen := rfl
  kind := ⟨_, Try.underlying21, rfl⟩
  flds := fun fields h => by rw [Try.underlying21] at h; cases h
  elt := fun n e h => by rw [Try.underlying21] at h; cases h
  cmp := fun h => by cases h
def ty23 : TI := { k := .struct [(3, 0), (3, 1), (4, 2), (4, 3), (3, 4)], size := 5, bytes := 32, zero := [.t (.int .i64 0), .t (.int .i64 0), .t (.bool false), .t (.bool false), .t (.int .i64 0)], cmp := true }
theorem ok23 : TIOk Try.prog 23 ty23 where
  info := ⟨Try.t23, .agg #[.int .i64 0, .int .i64 0, .bool false, .bool false, .int .i64 0], by kernel_rfl, by kernel_rfl, by kernel_rfl, by kernel_rfl, by first | trivial | (simp [All2, zeroR, ty23, Value.cells]; done), fun _ => ⟨_, rfl⟩⟩
  zlen := rfl
  kind := ⟨_, Try.underlying23, ⟨_, rfl, rfl, by kernel_rfl⟩⟩
  flds := fun fields h => by rw [Try.underlying23] at h; cases h; kernel_rfl
  elt := fun n e h => by rw [Try.underlying23] at h; cases h
  cmp := fun h => ⟨by kernel_rfl, by kernel_rfl⟩
def ty25 : TI := { k := .slice 30, size := 1, bytes := 24, zero := [.own 6 []], cmp := false }
theorem ok25 : TIOk Try.prog 25 ty25 where
  info := ⟨Try.t25, .slice none 0 0, by kernel_rfl, by kernel_rfl, by kernel_rfl, by kernel_rfl, by first | trivial | (simp [All2, zeroR, ty25, Value.cells]; done), fun h => by cases h⟩
  zlen := rfl
  kind := ⟨_, Try.underlying25, rfl⟩
  flds := fun fields h => by rw [Try.underlying25] at h; cases h
  elt := fun n e h => by rw [Try.underlying25] at h; cases h
  cmp := fun h => by cases h
def ty30 : TI := { k := .struct [(3, 0), (3, 1), (3, 2), (3, 3), (4, 4), (3, 5)], size := 6, bytes := 48, zero := [.t (.int .i64 0), .t (.int .i64 0), .t (.int .i64 0), .t (.int .i64 0), .t (.bool false), .t (.int .i64 0)], cmp := true }
theorem ok30 : TIOk Try.prog 30 ty30 where
  info := ⟨Try.t30, .agg #[.int .i64 0, .int .i64 0, .int .i64 0, .int .i64 0, .bool false, .int .i64 0], by kernel_rfl, by kernel_rfl, by kernel_rfl, by kernel_rfl, by first | trivial | (simp [All2, zeroR, ty30, Value.cells]; done), fun _ => ⟨_, rfl⟩⟩
  zlen := rfl
  kind := ⟨_, Try.underlying30, ⟨_, rfl, rfl, by kernel_rfl⟩⟩
  flds := fun fields h => by rw [Try.underlying30] at h; cases h; kernel_rfl
  elt := fun n e h => by rw [Try.underlying30] at h; cases h
  cmp := fun h => ⟨by kernel_rfl, by kernel_rfl⟩
def ty31 : TI := { k := .int .i64, size := 1, bytes := 8, zero := [.t (.int .i64 0)], cmp := false }
theorem ok31 : TIOk Try.prog 31 ty31 where
  info := ⟨Try.t31, .int .i64 0, by kernel_rfl, by kernel_rfl, by kernel_rfl, by kernel_rfl, by first | trivial | (simp [All2, zeroR, ty31, Value.cells]; done), fun h => by cases h⟩
  zlen := rfl
  kind := ⟨_, Try.underlying31, rfl⟩
  flds := fun fields h => by rw [Try.underlying31] at h; cases h
  elt := fun n e h => by rw [Try.underlying31] at h; cases h
  cmp := fun h => by cases h
def ty40 : TI := { k := .struct [(3, 0), (3, 1), (9, 2)], size := 3, bytes := 32, zero := [.t (.int .i64 0), .t (.int .i64 0), .t (.str "".toUTF8)], cmp := true }
theorem ok40 : TIOk Try.prog 40 ty40 where
  info := ⟨Try.t40, .agg #[.int .i64 0, .int .i64 0, .string "".toUTF8], by kernel_rfl, by kernel_rfl, by kernel_rfl, by kernel_rfl, by first | trivial | (simp [All2, zeroR, ty40, Value.cells]; done), fun _ => ⟨_, rfl⟩⟩
  zlen := rfl
  kind := ⟨_, Try.underlying40, ⟨_, rfl, rfl, by kernel_rfl⟩⟩
  flds := fun fields h => by rw [Try.underlying40] at h; cases h; kernel_rfl
  elt := fun n e h => by rw [Try.underlying40] at h; cases h
  cmp := fun h => ⟨by kernel_rfl, by kernel_rfl⟩
def ty41 : TI := { k := .slice 43, size := 1, bytes := 24, zero := [.own 8 []], cmp := false }
theorem ok41 : TIOk Try.prog 41 ty41 where
  info := ⟨Try.t41, .slice none 0 0, by kernel_rfl, by kernel_rfl, by kernel_rfl, by kernel_rfl, by first | trivial | (simp [All2, zeroR, ty41, Value.cells]; done), fun h => by cases h⟩
  zlen := rfl
  kind := ⟨_, Try.underlying41, rfl⟩
  flds := fun fields h => by rw [Try.underlying41] at h; cases h
  elt := fun n e h => by rw [Try.underlying41] at h; cases h
  cmp := fun h => by cases h
def ty43 : TI := { k := .struct [(3, 0), (9, 1), (40, 2), (3, 5), (3, 6), (41, 7)], size := 8, bytes := 96, zero := [.t (.int .i64 0), .t (.str "".toUTF8), .t (.int .i64 0), .t (.int .i64 0), .t (.str "".toUTF8), .t (.int .i64 0), .t (.int .i64 0), .own 8 []], cmp := false }
theorem ok43 : TIOk Try.prog 43 ty43 where
  info := ⟨Try.t43, .agg #[.int .i64 0, .string "".toUTF8, .int .i64 0, .int .i64 0, .string "".toUTF8, .int .i64 0, .int .i64 0, .slice none 0 0], by kernel_rfl, by kernel_rfl, by kernel_rfl, by kernel_rfl, by first | trivial | (simp [All2, zeroR, ty43, Value.cells]; done), fun _ => ⟨_, rfl⟩⟩
  zlen := rfl
  kind := ⟨_, Try.underlying43, ⟨_, rfl, rfl, by kernel_rfl⟩⟩
  flds := fun fields h => by rw [Try.underlying43] at h; cases h; kernel_rfl
  elt := fun n e h => by rw [Try.underlying43] at h; cases h
  cmp := fun h => by cases h
def ty44 : TI := { k := .slice 67, size := 1, bytes := 24, zero := [.own 3 []], cmp := false }
theorem ok44 : TIOk Try.prog 44 ty44 where
  info := ⟨Try.t44, .slice none 0 0, by kernel_rfl, by kernel_rfl, by kernel_rfl, by kernel_rfl, by first | trivial | (simp [All2, zeroR, ty44, Value.cells]; done), fun h => by cases h⟩
  zlen := rfl
  kind := ⟨_, Try.underlying44, rfl⟩
  flds := fun fields h => by rw [Try.underlying44] at h; cases h
  elt := fun n e h => by rw [Try.underlying44] at h; cases h
  cmp := fun h => by cases h
def ty45 : TI := { k := .slice 9, size := 1, bytes := 24, zero := [.own 1 []], cmp := false }
theorem ok45 : TIOk Try.prog 45 ty45 where
  info := ⟨Try.t45, .slice none 0 0, by kernel_rfl, by kernel_rfl, by kernel_rfl, by kernel_rfl, by first | trivial | (simp [All2, zeroR, ty45, Value.cells]; done), fun h => by cases h⟩
  zlen := rfl
  kind := ⟨_, Try.underlying45, rfl⟩
  flds := fun fields h => by rw [Try.underlying45] at h; cases h
  elt := fun n e h => by rw [Try.underlying45] at h; cases h
  cmp := fun h => by cases h
def ty53 : TI := { k := .slice 134, size := 1, bytes := 24, zero := [.own 2 []], cmp := false }
theorem ok53 : TIOk Try.prog 53 ty53 where
  info := ⟨Try.t53, .slice none 0 0, by kernel_rfl, by kernel_rfl, by kernel_rfl, by kernel_rfl, by first | trivial | (simp [All2, zeroR, ty53, Value.cells]; done), fun h => by cases h⟩
  zlen := rfl
  kind := ⟨_, Try.underlying53, rfl⟩
  flds := fun fields h => by rw [Try.underlying53] at h; cases h
  elt := fun n e h => by rw [Try.underlying53] at h; cases h
  cmp := fun h => by cases h
def ty54 : TI := { k := .slice 99, size := 1, bytes := 24, zero := [.own 4 []], cmp := false }
theorem ok54 : TIOk Try.prog 54 ty54 where
  info := ⟨Try.t54, .slice none 0 0, by kernel_rfl, by kernel_rfl, by kernel_rfl, by kernel_rfl, by first | trivial | (simp [All2, zeroR, ty54, Value.cells]; done), fun h => by cases h⟩
  zlen := rfl
  kind := ⟨_, Try.underlying54, rfl⟩
  flds := fun fields h => by rw [Try.underlying54] at h; cases h
  elt := fun n e h => by rw [Try.underlying54] at h; cases h
  cmp := fun h => by cases h
def ty56 : TI := { k := .struct [(3, 0), (53, 1), (54, 2)], size := 3, bytes := 56, zero := [.t (.int .i64 0), .own 2 [], .own 4 []], cmp := false }
theorem ok56 : TIOk Try.prog 56 ty56 where
  info := ⟨Try.t56, .agg #[.int .i64 0, .slice none 0 0, .slice none 0 0], by kernel_rfl, by kernel_rfl, by kernel_rfl, by kernel_rfl, by first | trivial | (simp [All2, zeroR, ty56, Value.cells]; done), fun _ => ⟨_, rfl⟩⟩
  zlen := rfl
  kind := ⟨_, Try.underlying56, ⟨_, rfl, rfl, by kernel_rfl⟩⟩
  flds := fun fields h => by rw [Try.underlying56] at h; cases h; kernel_rfl
  elt := fun n e h => by rw [Try.underlying56] at h; cases h
  cmp := fun h => by cases h
def ty63 : TI := { k := .slice 3, size := 1, bytes := 24, zero := [.own 1 []], cmp := false }
theorem ok63 : TIOk Try.prog 63 ty63 where
  info := ⟨Try.t63, .slice none 0 0, by kernel_rfl, by kernel_rfl, by kernel_rfl, by kernel_rfl, by first | trivial | (simp [All2, zeroR, ty63, Value.cells]; done), fun h => by cases h⟩
  zlen := rfl
  kind := ⟨_, Try.underlying63, rfl⟩
  flds := fun fields h => by rw [Try.underlying63] at h; cases h
  elt := fun n e h => by rw [Try.underlying63] at h; cases h
  cmp := fun h => by cases h
def ty64 : TI := { k := .slice 94, size := 1, bytes := 24, zero := [.own 4 []], cmp := false }
theorem ok64 : TIOk Try.prog 64 ty64 where
  info := ⟨Try.t64, .slice none 0 0, by kernel_rfl, by kernel_rfl, by kernel_rfl, by kernel_rfl, by first | trivial | (simp [All2, zeroR, ty64, Value.cells]; done), fun h => by cases h⟩
  zlen := rfl
  kind := ⟨_, Try.underlying64, rfl⟩
  flds := fun fields h => by rw [Try.underlying64] at h; cases h
  elt := fun n e h => by rw [Try.underlying64] at h; cases h
  cmp := fun h => by cases h
def ty65 : TI := { k := .slice 91, size := 1, bytes := 24, zero := [.own 2 []], cmp := false }
theorem ok65 : TIOk Try.prog 65 ty65 where
  info := ⟨Try.t65, .slice none 0 0, by kernel_rfl, by kernel_rfl, by kernel_rfl, by kernel_rfl, by first | trivial | (simp [All2, zeroR, ty65, Value.cells]; done), fun h => by cases h⟩
  zlen := rfl
  kind := ⟨_, Try.underlying65, rfl⟩
  flds := fun fields h => by rw [Try.underlying65] at h; cases h
  elt := fun n e h => by rw [Try.underlying65] at h; cases h
  cmp := fun h => by cases h
def ty67 : TI := { k := .struct [(3, 0), (64, 1), (65, 2)], size := 3, bytes := 56, zero := [.t (.int .i64 0), .own 4 [], .own 2 []], cmp := false }
theorem ok67 : TIOk Try.prog 67 ty67 where
  info := ⟨Try.t67, .agg #[.int .i64 0, .slice none 0 0, .slice none 0 0], by kernel_rfl, by kernel_rfl, by kernel_rfl, by kernel_rfl, by first | trivial | (simp [All2, zeroR, ty67, Value.cells]; done), fun _ => ⟨_, rfl⟩⟩
  zlen := rfl
  kind := ⟨_, Try.underlying67, ⟨_, rfl, rfl, by kernel_rfl⟩⟩
  flds := fun fields h => by rw [Try.underlying67] at h; cases h; kernel_rfl
  elt := fun n e h => by rw [Try.underlying67] at h; cases h
  cmp := fun h => by cases h
def ty73 : TI := { k := .slice 78, size := 1, bytes := 24, zero := [.own 2 []], cmp := false }
theorem ok73 : TIOk Try.prog 73 ty73 where
  info := ⟨Try.t73, .slice none 0 0, by kernel_rfl, by kernel_rfl, by kernel_rfl, by kernel_rfl, by first | trivial | (simp [All2, zeroR, ty73, Value.cells]; done), fun h => by cases h⟩
  zlen := rfl
  kind := ⟨_, Try.underlying73, rfl⟩
  flds := fun fields h => by rw [Try.underlying73] at h; cases h
  elt := fun n e h => by rw [Try.underlying73] at h; cases h
  cmp := fun h => by cases h
def ty87 : TI := { k := .int .u64, size := 1, bytes := 8, zero := [.t (.int .u64 0)], cmp := false }
theorem ok87 : TIOk Try.prog 87 ty87 where
  info := ⟨Try.t87, .int .u64 0, by kernel_rfl, by kernel_rfl, by kernel_rfl, by kernel_rfl, by first | trivial | (simp [All2, zeroR, ty87, Value.cells]; done), fun h => by cases h⟩
  zlen := rfl
  kind := ⟨_, Try.underlying87, rfl⟩
  flds := fun fields h => by rw [Try.underlying87] at h; cases h
  elt := fun n e h => by rw [Try.underlying87] at h; cases h
  cmp := fun h => by cases h
def ty91 : TI := { k := .struct [(3, 0), (3, 1)], size := 2, bytes := 16, zero := [.t (.int .i64 0), .t (.int .i64 0)], cmp := true }
theorem ok91 : TIOk Try.prog 91 ty91 where
  info := ⟨Try.t91, .agg #[.int .i64 0, .int .i64 0], by kernel_rfl, by kernel_rfl, by kernel_rfl, by kernel_rfl, by first | trivial | (simp [All2, zeroR, ty91, Value.cells]; done), fun _ => ⟨_, rfl⟩⟩
  zlen := rfl
  kind := ⟨_, Try.underlying91, ⟨_, rfl, rfl, by kernel_rfl⟩⟩
  flds := fun fields h => by rw [Try.underlying91] at h; cases h; kernel_rfl
  elt := fun n e h => by rw [Try.underlying91] at h; cases h
  cmp := fun h => ⟨by kernel_rfl, by kernel_rfl⟩
def ty94 : TI := { k := .struct [(3, 0), (3, 1), (3, 2), (3, 3)], size := 4, bytes := 32, zero := [.t (.int .i64 0), .t (.int .i64 0), .t (.int .i64 0), .t (.int .i64 0)], cmp := true }
theorem ok94 : TIOk Try.prog 94 ty94 where
  info := ⟨Try.t94, .agg #[.int .i64 0, .int .i64 0, .int .i64 0, .int .i64 0], by kernel_rfl, by kernel_rfl, by kernel_rfl, by kernel_rfl, by first | trivial | (simp [All2, zeroR, ty94, Value.cells]; done), fun _ => ⟨_, rfl⟩⟩
  zlen := rfl
  kind := ⟨_, Try.underlying94, ⟨_, rfl, rfl, by kernel_rfl⟩⟩
  flds := fun fields h => by rw [Try.underlying94] at h; cases h; kernel_rfl
  elt := fun n e h => by rw [Try.underlying94] at h; cases h
  cmp := fun h => ⟨by kernel_rfl, by kernel_rfl⟩
def ty99 : TI := { k := .struct [(9, 0), (40, 1)], size := 4, bytes := 48, zero := [.t (.str "".toUTF8), .t (.int .i64 0), .t (.int .i64 0), .t (.str "".toUTF8)], cmp := false }
theorem ok99 : TIOk Try.prog 99 ty99 where
  info := ⟨Try.t99, .agg #[.string "".toUTF8, .int .i64 0, .int .i64 0, .string "".toUTF8], by kernel_rfl, by kernel_rfl, by kernel_rfl, by kernel_rfl, by first | trivial | (simp [All2, zeroR, ty99, Value.cells]; done), fun _ => ⟨_, rfl⟩⟩
  zlen := rfl
  kind := ⟨_, Try.underlying99, ⟨_, rfl, rfl, by kernel_rfl⟩⟩
  flds := fun fields h => by rw [Try.underlying99] at h; cases h; kernel_rfl
  elt := fun n e h => by rw [Try.underlying99] at h; cases h
  cmp := fun h => by cases h
def ty100 : TI := { k := .int .u64, size := 1, bytes := 8, zero := [.t (.int .u64 0)], cmp := false }
theorem ok100 : TIOk Try.prog 100 ty100 where
  info := ⟨Try.t100, .int .u64 0, by kernel_rfl, by kernel_rfl, by kernel_rfl, by kernel_rfl, by first | trivial | (simp [All2, zeroR, ty100, Value.cells]; done), fun h => by cases h⟩
  zlen := rfl
  kind := ⟨_, Try.underlying100, rfl⟩
  flds := fun fields h => by rw [Try.underlying100] at h; cases h
  elt := fun n e h => by rw [Try.underlying100] at h; cases h
  cmp := fun h => by cases h
def ty101 : TI := { k := .slice 5, size := 1, bytes := 24, zero := [.own 1 []], cmp := false }
theorem ok101 : TIOk Try.prog 101 ty101 where
  info := ⟨Try.t101, .slice none 0 0, by kernel_rfl, by kernel_rfl, by kernel_rfl, by kernel_rfl, by first | trivial | (simp [All2, zeroR, ty101, Value.cells]; done), fun h => by cases h⟩
  zlen := rfl
  kind := ⟨_, Try.underlying101, rfl⟩
  flds := fun fields h => by rw [Try.underlying101] at h; cases h
  elt := fun n e h => by rw [Try.underlying101] at h; cases h
  cmp := fun h => by cases h
def ty120 : TI := { k := .arr 0 16, size := 0, bytes := 0, zero := [], cmp := false }
theorem ok120 : TIOk Try.prog 120 ty120 where
  info := ⟨Try.t120, .agg #[], by kernel_rfl, by kernel_rfl, by kernel_rfl, by kernel_rfl, by first | trivial | (simp [All2, zeroR, ty120, Value.cells]; done), fun _ => ⟨_, rfl⟩⟩
  zlen := rfl
  kind := ⟨_, Try.underlying120, rfl⟩
  flds := fun fields h => by rw [Try.underlying120] at h; cases h
  elt := fun n e h => by rw [Try.underlying120] at h; cases h; kernel_rfl
  cmp := fun h => by cases h
def ty124 : TI := { k := .int .u32, size := 1, bytes := 4, zero := [.t (.int .u32 0)], cmp := false }
theorem ok124 : TIOk Try.prog 124 ty124 where
  info := ⟨Try.t124, .int .u32 0, by kernel_rfl, by kernel_rfl, by kernel_rfl, by kernel_rfl, by first | trivial | (simp [All2, zeroR, ty124, Value.cells]; done), fun h => by cases h⟩
  zlen := rfl
  kind := ⟨_, Try.underlying124, rfl⟩
  flds := fun fields h => by rw [Try.underlying124] at h; cases h
  elt := fun n e h => by rw [Try.underlying124] at h; cases h
  cmp := fun h => by cases h
def ty128 : TI := { k := .ptr 5, size := 1, bytes := 8, zero := [.t .nilp], cmp := false }
theorem ok128 : TIOk Try.prog 128 ty128 where
  info := ⟨Try.t128, .pointer none, by kernel_rfl, by kernel_rfl, by kernel_rfl, by kernel_rfl, by first | trivial | (simp [All2, zeroR, ty128, Value.cells]; done), fun h => by cases h⟩
  zlen := rfl
  kind := ⟨_, Try.underlying128, rfl⟩
  flds := fun fields h => by rw [Try.underlying128] at h; cases h
  elt := fun n e h => by rw [Try.underlying128] at h; cases h
  cmp := fun h => by cases h
def ty134 : TI := { k := .struct [(9, 0), (63, 1)], size := 2, bytes := 40, zero := [.t (.str "".toUTF8), .own 1 []], cmp := false }
theorem ok134 : TIOk Try.prog 134 ty134 where
  info := ⟨Try.t134, .agg #[.string "".toUTF8, .slice none 0 0], by kernel_rfl, by kernel_rfl, by kernel_rfl, by kernel_rfl, by first | trivial | (simp [All2, zeroR, ty134, Value.cells]; done), fun _ => ⟨_, rfl⟩⟩
  zlen := rfl
  kind := ⟨_, Try.underlying134, ⟨_, rfl, rfl, by kernel_rfl⟩⟩
  flds := fun fields h => by rw [Try.underlying134] at h; cases h; kernel_rfl
  elt := fun n e h => by rw [Try.underlying134] at h; cases h
  cmp := fun h => by cases h
def T : TypeId → Option TI
  | 2 => some ty2
  | 3 => some ty3
  | 4 => some ty4
  | 5 => some ty5
  | 9 => some ty9
  | 12 => some ty12
  | 19 => some ty19
  | 21 => some ty21
  | 23 => some ty23
  | 25 => some ty25
  | 30 => some ty30
  | 31 => some ty31
  | 40 => some ty40
  | 41 => some ty41
  | 43 => some ty43
  | 44 => some ty44
  | 45 => some ty45
  | 53 => some ty53
  | 54 => some ty54
  | 56 => some ty56
  | 63 => some ty63
  | 64 => some ty64
  | 65 => some ty65
  | 67 => some ty67
  | 73 => some ty73
  | 87 => some ty87
  | 91 => some ty91
  | 94 => some ty94
  | 99 => some ty99
  | 100 => some ty100
  | 101 => some ty101
  | 120 => some ty120
  | 124 => some ty124
  | 128 => some ty128
  | 134 => some ty134
  | _ => none
theorem tOk : TOk Try.prog T := by
  intro t ti h
  unfold T at h
  split at h
  · cases h; exact ok2
  · cases h; exact ok3
  · cases h; exact ok4
  · cases h; exact ok5
  · cases h; exact ok9
  · cases h; exact ok12
  · cases h; exact ok19
  · cases h; exact ok21
  · cases h; exact ok23
  · cases h; exact ok25
  · cases h; exact ok30
  · cases h; exact ok31
  · cases h; exact ok40
  · cases h; exact ok41
  · cases h; exact ok43
  · cases h; exact ok44
  · cases h; exact ok45
  · cases h; exact ok53
  · cases h; exact ok54
  · cases h; exact ok56
  · cases h; exact ok63
  · cases h; exact ok64
  · cases h; exact ok65
  · cases h; exact ok67
  · cases h; exact ok73
  · cases h; exact ok87
  · cases h; exact ok91
  · cases h; exact ok94
  · cases h; exact ok99
  · cases h; exact ok100
  · cases h; exact ok101
  · cases h; exact ok120
  · cases h; exact ok124
  · cases h; exact ok128
  · cases h; exact ok134
  · cases h
theorem T_2 : T 2 = some ty2 := rfl
theorem T_3 : T 3 = some ty3 := rfl
theorem T_4 : T 4 = some ty4 := rfl
theorem T_5 : T 5 = some ty5 := rfl
theorem T_9 : T 9 = some ty9 := rfl
theorem T_12 : T 12 = some ty12 := rfl
theorem T_19 : T 19 = some ty19 := rfl
theorem T_21 : T 21 = some ty21 := rfl
theorem T_23 : T 23 = some ty23 := rfl
theorem T_25 : T 25 = some ty25 := rfl
theorem T_30 : T 30 = some ty30 := rfl
theorem T_31 : T 31 = some ty31 := rfl
theorem T_40 : T 40 = some ty40 := rfl
theorem T_41 : T 41 = some ty41 := rfl
theorem T_43 : T 43 = some ty43 := rfl
theorem T_44 : T 44 = some ty44 := rfl
theorem T_45 : T 45 = some ty45 := rfl
theorem T_53 : T 53 = some ty53 := rfl
theorem T_54 : T 54 = some ty54 := rfl
theorem T_56 : T 56 = some ty56 := rfl
theorem T_63 : T 63 = some ty63 := rfl
theorem T_64 : T 64 = some ty64 := rfl
theorem T_65 : T 65 = some ty65 := rfl
theorem T_67 : T 67 = some ty67 := rfl
theorem T_73 : T 73 = some ty73 := rfl
theorem T_87 : T 87 = some ty87 := rfl
theorem T_91 : T 91 = some ty91 := rfl
theorem T_94 : T 94 = some ty94 := rfl
theorem T_99 : T 99 = some ty99 := rfl
theorem T_100 : T 100 = some ty100 := rfl
theorem T_101 : T 101 = some ty101 := rfl
theorem T_120 : T 120 = some ty120 := rfl
theorem T_124 : T 124 = some ty124 := rfl
theorem T_128 : T 128 = some ty128 := rfl
theorem T_134 : T 134 = some ty134 := rfl
theorem mixed : Try.prog.follows .mixedOrders = true := by kernel_rfl
end Go.Proofs.Yteoddaeipckgcaa.Ev
