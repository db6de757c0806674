/- What is used of the seat's types. -/
import Derived.Test.YteoddaeipckgcaaFx17
import Derived.Test.YteoddaeipckgcaaProg
import Derived.KernelRfl
namespace Go.Proofs.Yteoddaeipckgcaa.Fx
open Go Go.RowKit
set_option linter.unusedSimpArgs false
set_option maxRecDepth 100000
def ty1 : TI := { k := .func, size := 1, bytes := 8, zero := [.t .nilf], cmp := false }
theorem ok1 : TIOk Try.prog 1 ty1 where
  info := ⟨Try.t1, .nilFunc, by kernel_rfl, by kernel_rfl, by kernel_rfl, by kernel_rfl, by first | trivial | (simp [All2, zeroR, ty1, Value.cells]; done), fun h => by cases h⟩
  zlen := rfl
  kind := ⟨_, Try.underlying1, ⟨_, _, _, rfl⟩⟩
  flds := fun fields h => by rw [Try.underlying1] at h; cases h
  elt := fun n e h => by rw [Try.underlying1] at h; cases h
  cmp := fun h => by cases h
def ty2 : TI := { k := .int .i64, size := 1, bytes := 8, zero := [.t (.int .i64 0)], cmp := false }
theorem ok2 : TIOk Try.prog 2 ty2 where
  info := ⟨Try.t2, .int .i64 0, by kernel_rfl, by kernel_rfl, by kernel_rfl, by kernel_rfl, by first | trivial | (simp [All2, zeroR, ty2, Value.cells]; done), fun h => by cases h⟩
  zlen := rfl
  kind := ⟨_, Try.underlying2, rfl⟩
  flds := fun fields h => by rw [Try.underlying2] at h; cases h
  elt := fun n e h => by rw [Try.underlying2] at h; cases h
  cmp := fun h => by cases h
def ty3 : TI := { k := .int .i64, size := 1, bytes := 8, zero := [.t (.int .i64 0)], cmp := false }
theorem ok3 : TIOk Try.prog 3 ty3 where
  info := ⟨Try.t3, .int .i64 0, by kernel_rfl, by kernel_rfl, by kernel_rfl, by kernel_rfl, by first | trivial | (simp [All2, zeroR, ty3, Value.cells]; done), fun h => by cases h⟩
  zlen := rfl
  kind := ⟨_, Try.underlying3, rfl⟩
  flds := fun fields h => by rw [Try.underlying3] at h; cases h
  elt := fun n e h => by rw [Try.underlying3] at h; cases h
  cmp := fun h => by cases h
def ty4 : TI := { k := .bool, size := 1, bytes := 1, zero := [.t (.bool false)], cmp := false }
theorem ok4 : TIOk Try.prog 4 ty4 where
  info := ⟨Try.t4, .bool false, by kernel_rfl, by kernel_rfl, by kernel_rfl, by kernel_rfl, by first | trivial | (simp [All2, zeroR, ty4, Value.cells]; done), fun h => by cases h⟩
  zlen := rfl
  kind := ⟨_, Try.underlying4, rfl⟩
  flds := fun fields h => by rw [Try.underlying4] at h; cases h
  elt := fun n e h => by rw [Try.underlying4] at h; cases h
  cmp := fun h => by cases h
def ty5 : TI := { k := .int .u8, size := 1, bytes := 1, zero := [.t (.int .u8 0)], cmp := false }
theorem ok5 : TIOk Try.prog 5 ty5 where
  info := ⟨Try.t5, .int .u8 0, by kernel_rfl, by kernel_rfl, by kernel_rfl, by kernel_rfl, by first | trivial | (simp [All2, zeroR, ty5, Value.cells]; done), fun h => by cases h⟩
  zlen := rfl
  kind := ⟨_, Try.underlying5, rfl⟩
  flds := fun fields h => by rw [Try.underlying5] at h; cases h
  elt := fun n e h => by rw [Try.underlying5] at h; cases h
  cmp := fun h => by cases h
def ty9 : TI := { k := .str, size := 1, bytes := 16, zero := [.t (.str "".toUTF8)], cmp := false }
theorem ok9 : TIOk Try.prog 9 ty9 where
  info := ⟨Try.t9, .string "".toUTF8, by kernel_rfl, by kernel_rfl, by kernel_rfl, by kernel_rfl, by first | trivial | (simp [All2, zeroR, ty9, Value.cells]; done), fun h => by cases h⟩
  zlen := rfl
  kind := ⟨_, Try.underlying9, rfl⟩
  flds := fun fields h => by rw [Try.underlying9] at h; cases h
  elt := fun n e h => by rw [Try.underlying9] at h; cases h
  cmp := fun h => by cases h
def ty12 : TI := { k := .int .u64, size := 1, bytes := 8, zero := [.t (.int .u64 0)], cmp := false }
theorem ok12 : TIOk Try.prog 12 ty12 where
  info := ⟨Try.t12, .int .u64 0, by kernel_rfl, by kernel_rfl, by kernel_rfl, by kernel_rfl, by first | trivial | (simp [All2, zeroR, ty12, Value.cells]; done), fun h => by cases h⟩
  zlen := rfl
  kind := ⟨_, Try.underlying12, rfl⟩
  flds := fun fields h => by rw [Try.underlying12] at h; cases h
  elt := fun n e h => by rw [Try.underlying12] at h; cases h
  cmp := fun h => by cases h
def ty19 : TI := { k := .struct [(17, 0)], size := 1, bytes := 8, zero := [.t .nilp], cmp := false }
theorem ok19 : TIOk Try.prog 19 ty19 where
  info := ⟨Try.t19, .agg #[.pointer none], by kernel_rfl, by kernel_rfl, by kernel_rfl, by kernel_rfl, by first | trivial | (simp [All2, zeroR, ty19, Value.cells]; done), fun _ => ⟨_, rfl⟩⟩
  zlen := rfl
  kind := ⟨_, Try.underlying19, ⟨_, rfl, rfl, by kernel_rfl⟩⟩
  flds := fun fields h => by rw [Try.underlying19] at h; cases h; kernel_rfl
  elt := fun n e h => by rw [Try.underlying19] at h; cases h
  cmp := fun h => by cases h
def ty20 : TI := { k := .iface true, size := 1, bytes := 16, zero := [.t .nili], cmp := false }
theorem ok20 : TIOk Try.prog 20 ty20 where
  info := ⟨Try.t20, .nilIface, by kernel_rfl, by kernel_rfl, by kernel_rfl, by kernel_rfl, by first | trivial | (simp [All2, zeroR, ty20, Value.cells]; done), fun h => by cases h⟩
  zlen := rfl
  kind := ⟨_, Try.underlying20, ⟨_, rfl, by kernel_rfl⟩⟩
  flds := fun fields h => by rw [Try.underlying20] at h; cases h
  elt := fun n e h => by rw [Try.underlying20] at h; cases h
  cmp := fun h => by cases h
def ty21 : TI := { k := .int .i32, size := 1, bytes := 4, zero := [.t (.int .i32 0)], cmp := false }
theorem ok21 : TIOk Try.prog 21 ty21 where
  info := ⟨Try.t21, .int .i32 0, by kernel_rfl, by kernel_rfl, by kernel_rfl, by kernel_rfl, by first | trivial | (simp [All2, zeroR, ty21, Value.cells]; done), fun h => by cases h⟩
  zlen := rfl
  kind := ⟨_, Try.underlying21, rfl⟩
  flds := fun fields h => by rw [Try.underlying21] at h; cases h
  elt := fun n e h => by rw [Try.underlying21] at h; cases h
  cmp := fun h => by cases h
def ty23 : TI := { k := .struct [(3, 0), (3, 1), (4, 2), (4, 3), (3, 4)], size := 5, bytes := 32, zero := [.t (.int .i64 0), .t (.int .i64 0), .t (.bool false), .t (.bool false), .t (.int .i64 0)], cmp := true }
theorem ok23 : TIOk Try.prog 23 ty23 where
  info := ⟨Try.t23, .agg #[.int .i64 0, .int .i64 0, .bool false, .bool false, .int .i64 0], by kernel_rfl, by kernel_rfl, by kernel_rfl, by kernel_rfl, by first | trivial | (simp [All2, zeroR, ty23, Value.cells]; done), fun _ => ⟨_, rfl⟩⟩
  zlen := rfl
  kind := ⟨_, Try.underlying23, ⟨_, rfl, rfl, by kernel_rfl⟩⟩
  flds := fun fields h => by rw [Try.underlying23] at h; cases h; kernel_rfl
  elt := fun n e h => by rw [Try.underlying23] at h; cases h
  cmp := fun h => ⟨by kernel_rfl, by kernel_rfl⟩
def ty24 : TI := { k := .func, size := 1, bytes := 8, zero := [.t .nilf], cmp := false }
theorem ok24 : TIOk Try.prog 24 ty24 where
  info := ⟨Try.t24, .nilFunc, by kernel_rfl, by kernel_rfl, by kernel_rfl, by kernel_rfl, by first | trivial | (simp [All2, zeroR, ty24, Value.cells]; done), fun h => by cases h⟩
  zlen := rfl
  kind := ⟨_, Try.underlying24, ⟨_, _, _, rfl⟩⟩
  flds := fun fields h => by rw [Try.underlying24] at h; cases h
  elt := fun n e h => by rw [Try.underlying24] at h; cases h
  cmp := fun h => by cases h
def ty25 : TI := { k := .slice 30, size := 1, bytes := 24, zero := [.own 6 []], cmp := false }
theorem ok25 : TIOk Try.prog 25 ty25 where
  info := ⟨Try.t25, .slice none 0 0, by kernel_rfl, by kernel_rfl, by kernel_rfl, by kernel_rfl, by first | trivial | (simp [All2, zeroR, ty25, Value.cells]; done), fun h => by cases h⟩
  zlen := rfl
  kind := ⟨_, Try.underlying25, rfl⟩
  flds := fun fields h => by rw [Try.underlying25] at h; cases h
  elt := fun n e h => by rw [Try.underlying25] at h; cases h
  cmp := fun h => by cases h
def ty26 : TI := { k := .func, size := 1, bytes := 8, zero := [.t .nilf], cmp := false }
theorem ok26 : TIOk Try.prog 26 ty26 where
  info := ⟨Try.t26, .nilFunc, by kernel_rfl, by kernel_rfl, by kernel_rfl, by kernel_rfl, by first | trivial | (simp [All2, zeroR, ty26, Value.cells]; done), fun h => by cases h⟩
  zlen := rfl
  kind := ⟨_, Try.underlying26, ⟨_, _, _, rfl⟩⟩
  flds := fun fields h => by rw [Try.underlying26] at h; cases h
  elt := fun n e h => by rw [Try.underlying26] at h; cases h
  cmp := fun h => by cases h
def ty27 : TI := { k := .func, size := 1, bytes := 8, zero := [.t .nilf], cmp := false }
theorem ok27 : TIOk Try.prog 27 ty27 where
  info := ⟨Try.t27, .nilFunc, by kernel_rfl, by kernel_rfl, by kernel_rfl, by kernel_rfl, by first | trivial | (simp [All2, zeroR, ty27, Value.cells]; done), fun h => by cases h⟩
  zlen := rfl
  kind := ⟨_, Try.underlying27, ⟨_, _, _, rfl⟩⟩
  flds := fun fields h => by rw [Try.underlying27] at h; cases h
  elt := fun n e h => by rw [Try.underlying27] at h; cases h
  cmp := fun h => by cases h
def ty28 : TI := { k := .func, size := 1, bytes := 8, zero := [.t .nilf], cmp := false }
theorem ok28 : TIOk Try.prog 28 ty28 where
  info := ⟨Try.t28, .nilFunc, by kernel_rfl, by kernel_rfl, by kernel_rfl, by kernel_rfl, by first | trivial | (simp [All2, zeroR, ty28, Value.cells]; done), fun h => by cases h⟩
  zlen := rfl
  kind := ⟨_, Try.underlying28, ⟨_, _, _, rfl⟩⟩
  flds := fun fields h => by rw [Try.underlying28] at h; cases h
  elt := fun n e h => by rw [Try.underlying28] at h; cases h
  cmp := fun h => by cases h
def ty30 : TI := { k := .struct [(3, 0), (3, 1), (3, 2), (3, 3), (4, 4), (3, 5)], size := 6, bytes := 48, zero := [.t (.int .i64 0), .t (.int .i64 0), .t (.int .i64 0), .t (.int .i64 0), .t (.bool false), .t (.int .i64 0)], cmp := true }
theorem ok30 : TIOk Try.prog 30 ty30 where
  info := ⟨Try.t30, .agg #[.int .i64 0, .int .i64 0, .int .i64 0, .int .i64 0, .bool false, .int .i64 0], by kernel_rfl, by kernel_rfl, by kernel_rfl, by kernel_rfl, by first | trivial | (simp [All2, zeroR, ty30, Value.cells]; done), fun _ => ⟨_, rfl⟩⟩
  zlen := rfl
  kind := ⟨_, Try.underlying30, ⟨_, rfl, rfl, by kernel_rfl⟩⟩
  flds := fun fields h => by rw [Try.underlying30] at h; cases h; kernel_rfl
  elt := fun n e h => by rw [Try.underlying30] at h; cases h
  cmp := fun h => ⟨by kernel_rfl, by kernel_rfl⟩
def ty31 : TI := { k := .int .i64, size := 1, bytes := 8, zero := [.t (.int .i64 0)], cmp := false }
theorem ok31 : TIOk Try.prog 31 ty31 where
  info := ⟨Try.t31, .int .i64 0, by kernel_rfl, by kernel_rfl, by kernel_rfl, by kernel_rfl, by first | trivial | (simp [All2, zeroR, ty31, Value.cells]; done), fun h => by cases h⟩
  zlen := rfl
  kind := ⟨_, Try.underlying31, rfl⟩
  flds := fun fields h => by rw [Try.underlying31] at h; cases h
  elt := fun n e h => by rw [Try.underlying31] at h; cases h
  cmp := fun h => by cases h
def ty33 : TI := { k := .func, size := 1, bytes := 8, zero := [.t .nilf], cmp := false }
theorem ok33 : TIOk Try.prog 33 ty33 where
  info := ⟨Try.t33, .nilFunc, by kernel_rfl, by kernel_rfl, by kernel_rfl, by kernel_rfl, by first | trivial | (simp [All2, zeroR, ty33, Value.cells]; done), fun h => by cases h⟩
  zlen := rfl
  kind := ⟨_, Try.underlying33, ⟨_, _, _, rfl⟩⟩
  flds := fun fields h => by rw [Try.underlying33] at h; cases h
  elt := fun n e h => by rw [Try.underlying33] at h; cases h
  cmp := fun h => by cases h
def ty35 : TI := { k := .func, size := 1, bytes := 8, zero := [.t .nilf], cmp := false }
theorem ok35 : TIOk Try.prog 35 ty35 where
  info := ⟨Try.t35, .nilFunc, by kernel_rfl, by kernel_rfl, by kernel_rfl, by kernel_rfl, by first | trivial | (simp [All2, zeroR, ty35, Value.cells]; done), fun h => by cases h⟩
  zlen := rfl
  kind := ⟨_, Try.underlying35, ⟨_, _, _, rfl⟩⟩
  flds := fun fields h => by rw [Try.underlying35] at h; cases h
  elt := fun n e h => by rw [Try.underlying35] at h; cases h
  cmp := fun h => by cases h
def ty36 : TI := { k := .func, size := 1, bytes := 8, zero := [.t .nilf], cmp := false }
theorem ok36 : TIOk Try.prog 36 ty36 where
  info := ⟨Try.t36, .nilFunc, by kernel_rfl, by kernel_rfl, by kernel_rfl, by kernel_rfl, by first | trivial | (simp [All2, zeroR, ty36, Value.cells]; done), fun h => by cases h⟩
  zlen := rfl
  kind := ⟨_, Try.underlying36, ⟨_, _, _, rfl⟩⟩
  flds := fun fields h => by rw [Try.underlying36] at h; cases h
  elt := fun n e h => by rw [Try.underlying36] at h; cases h
  cmp := fun h => by cases h
def ty37 : TI := { k := .func, size := 1, bytes := 8, zero := [.t .nilf], cmp := false }
theorem ok37 : TIOk Try.prog 37 ty37 where
  info := ⟨Try.t37, .nilFunc, by kernel_rfl, by kernel_rfl, by kernel_rfl, by kernel_rfl, by first | trivial | (simp [All2, zeroR, ty37, Value.cells]; done), fun h => by cases h⟩
  zlen := rfl
  kind := ⟨_, Try.underlying37, ⟨_, _, _, rfl⟩⟩
  flds := fun fields h => by rw [Try.underlying37] at h; cases h
  elt := fun n e h => by rw [Try.underlying37] at h; cases h
  cmp := fun h => by cases h
def ty38 : TI := { k := .func, size := 1, bytes := 8, zero := [.t .nilf], cmp := false }
theorem ok38 : TIOk Try.prog 38 ty38 where
  info := ⟨Try.t38, .nilFunc, by kernel_rfl, by kernel_rfl, by kernel_rfl, by kernel_rfl, by first | trivial | (simp [All2, zeroR, ty38, Value.cells]; done), fun h => by cases h⟩
  zlen := rfl
  kind := ⟨_, Try.underlying38, ⟨_, _, _, rfl⟩⟩
  flds := fun fields h => by rw [Try.underlying38] at h; cases h
  elt := fun n e h => by rw [Try.underlying38] at h; cases h
  cmp := fun h => by cases h
def ty40 : TI := { k := .struct [(3, 0), (3, 1), (9, 2)], size := 3, bytes := 32, zero := [.t (.int .i64 0), .t (.int .i64 0), .t (.str "".toUTF8)], cmp := true }
theorem ok40 : TIOk Try.prog 40 ty40 where
  info := ⟨Try.t40, .agg #[.int .i64 0, .int .i64 0, .string "".toUTF8], by kernel_rfl, by kernel_rfl, by kernel_rfl, by kernel_rfl, by first | trivial | (simp [All2, zeroR, ty40, Value.cells]; done), fun _ => ⟨_, rfl⟩⟩
  zlen := rfl
  kind := ⟨_, Try.underlying40, ⟨_, rfl, rfl, by kernel_rfl⟩⟩
  flds := fun fields h => by rw [Try.underlying40] at h; cases h; kernel_rfl
  elt := fun n e h => by rw [Try.underlying40] at h; cases h
  cmp := fun h => ⟨by kernel_rfl, by kernel_rfl⟩
def ty41 : TI := { k := .slice 43, size := 1, bytes := 24, zero := [.own 8 []], cmp := false }
theorem ok41 : TIOk Try.prog 41 ty41 where
  info := ⟨Try.t41, .slice none 0 0, by kernel_rfl, by kernel_rfl, by kernel_rfl, by kernel_rfl, by first | trivial | (simp [All2, zeroR, ty41, Value.cells]; done), fun h => by cases h⟩
  zlen := rfl
  kind := ⟨_, Try.underlying41, rfl⟩
  flds := fun fields h => by rw [Try.underlying41] at h; cases h
  elt := fun n e h => by rw [Try.underlying41] at h; cases h
  cmp := fun h => by cases h
def ty43 : TI := { k := .struct [(3, 0), (9, 1), (40, 2), (3, 5), (3, 6), (41, 7)], size := 8, bytes := 96, zero := [.t (.int .i64 0), .t (.str "".toUTF8), .t (.int .i64 0), .t (.int .i64 0), .t (.str "".toUTF8), .t (.int .i64 0), .t (.int .i64 0), .own 8 []], cmp := false }
theorem ok43 : TIOk Try.prog 43 ty43 where
  info := ⟨Try.t43, .agg #[.int .i64 0, .string "".toUTF8, .int .i64 0, .int .i64 0, .string "".toUTF8, .int .i64 0, .int .i64 0, .slice none 0 0], by kernel_rfl, by kernel_rfl, by kernel_rfl, by kernel_rfl, by first | trivial | (simp [All2, zeroR, ty43, Value.cells]; done), fun _ => ⟨_, rfl⟩⟩
  zlen := rfl
  kind := ⟨_, Try.underlying43, ⟨_, rfl, rfl, by kernel_rfl⟩⟩
  flds := fun fields h => by rw [Try.underlying43] at h; cases h; kernel_rfl
  elt := fun n e h => by rw [Try.underlying43] at h; cases h
  cmp := fun h => by cases h
def ty44 : TI := { k := .slice 67, size := 1, bytes := 24, zero := [.own 3 []], cmp := false }
theorem ok44 : TIOk Try.prog 44 ty44 where
  info := ⟨Try.t44, .slice none 0 0, by kernel_rfl, by kernel_rfl, by kernel_rfl, by kernel_rfl, by first | trivial | (simp [All2, zeroR, ty44, Value.cells]; done), fun h => by cases h⟩
  zlen := rfl
  kind := ⟨_, Try.underlying44, rfl⟩
  flds := fun fields h => by rw [Try.underlying44] at h; cases h
  elt := fun n e h => by rw [Try.underlying44] at h; cases h
  cmp := fun h => by cases h
def ty45 : TI := { k := .slice 9, size := 1, bytes := 24, zero := [.own 1 []], cmp := false }
theorem ok45 : TIOk Try.prog 45 ty45 where
  info := ⟨Try.t45, .slice none 0 0, by kernel_rfl, by kernel_rfl, by kernel_rfl, by kernel_rfl, by first | trivial | (simp [All2, zeroR, ty45, Value.cells]; done), fun h => by cases h⟩
  zlen := rfl
  kind := ⟨_, Try.underlying45, rfl⟩
  flds := fun fields h => by rw [Try.underlying45] at h; cases h
  elt := fun n e h => by rw [Try.underlying45] at h; cases h
  cmp := fun h => by cases h
def ty46 : TI := { k := .func, size := 1, bytes := 8, zero := [.t .nilf], cmp := false }
theorem ok46 : TIOk Try.prog 46 ty46 where
  info := ⟨Try.t46, .nilFunc, by kernel_rfl, by kernel_rfl, by kernel_rfl, by kernel_rfl, by first | trivial | (simp [All2, zeroR, ty46, Value.cells]; done), fun h => by cases h⟩
  zlen := rfl
  kind := ⟨_, Try.underlying46, ⟨_, _, _, rfl⟩⟩
  flds := fun fields h => by rw [Try.underlying46] at h; cases h
  elt := fun n e h => by rw [Try.underlying46] at h; cases h
  cmp := fun h => by cases h
def ty47 : TI := { k := .func, size := 1, bytes := 8, zero := [.t .nilf], cmp := false }
theorem ok47 : TIOk Try.prog 47 ty47 where
  info := ⟨Try.t47, .nilFunc, by kernel_rfl, by kernel_rfl, by kernel_rfl, by kernel_rfl, by first | trivial | (simp [All2, zeroR, ty47, Value.cells]; done), fun h => by cases h⟩
  zlen := rfl
  kind := ⟨_, Try.underlying47, ⟨_, _, _, rfl⟩⟩
  flds := fun fields h => by rw [Try.underlying47] at h; cases h
  elt := fun n e h => by rw [Try.underlying47] at h; cases h
  cmp := fun h => by cases h
def ty49 : TI := { k := .func, size := 1, bytes := 8, zero := [.t .nilf], cmp := false }
theorem ok49 : TIOk Try.prog 49 ty49 where
  info := ⟨Try.t49, .nilFunc, by kernel_rfl, by kernel_rfl, by kernel_rfl, by kernel_rfl, by first | trivial | (simp [All2, zeroR, ty49, Value.cells]; done), fun h => by cases h⟩
  zlen := rfl
  kind := ⟨_, Try.underlying49, ⟨_, _, _, rfl⟩⟩
  flds := fun fields h => by rw [Try.underlying49] at h; cases h
  elt := fun n e h => by rw [Try.underlying49] at h; cases h
  cmp := fun h => by cases h
def ty50 : TI := { k := .func, size := 1, bytes := 8, zero := [.t .nilf], cmp := false }
theorem ok50 : TIOk Try.prog 50 ty50 where
  info := ⟨Try.t50, .nilFunc, by kernel_rfl, by kernel_rfl, by kernel_rfl, by kernel_rfl, by first | trivial | (simp [All2, zeroR, ty50, Value.cells]; done), fun h => by cases h⟩
  zlen := rfl
  kind := ⟨_, Try.underlying50, ⟨_, _, _, rfl⟩⟩
  flds := fun fields h => by rw [Try.underlying50] at h; cases h
  elt := fun n e h => by rw [Try.underlying50] at h; cases h
  cmp := fun h => by cases h
def ty51 : TI := { k := .func, size := 1, bytes := 8, zero := [.t .nilf], cmp := false }
theorem ok51 : TIOk Try.prog 51 ty51 where
  info := ⟨Try.t51, .nilFunc, by kernel_rfl, by kernel_rfl, by kernel_rfl, by kernel_rfl, by first | trivial | (simp [All2, zeroR, ty51, Value.cells]; done), fun h => by cases h⟩
  zlen := rfl
  kind := ⟨_, Try.underlying51, ⟨_, _, _, rfl⟩⟩
  flds := fun fields h => by rw [Try.underlying51] at h; cases h
  elt := fun n e h => by rw [Try.underlying51] at h; cases h
  cmp := fun h => by cases h
def ty52 : TI := { k := .func, size := 1, bytes := 8, zero := [.t .nilf], cmp := false }
theorem ok52 : TIOk Try.prog 52 ty52 where
  info := ⟨Try.t52, .nilFunc, by kernel_rfl, by kernel_rfl, by kernel_rfl, by kernel_rfl, by first | trivial | (simp [All2, zeroR, ty52, Value.cells]; done), fun h => by cases h⟩
  zlen := rfl
  kind := ⟨_, Try.underlying52, ⟨_, _, _, rfl⟩⟩
  flds := fun fields h => by rw [Try.underlying52] at h; cases h
  elt := fun n e h => by rw [Try.underlying52] at h; cases h
  cmp := fun h => by cases h
def ty53 : TI := { k := .slice 134, size := 1, bytes := 24, zero := [.own 2 []], cmp := false }
theorem ok53 : TIOk Try.prog 53 ty53 where
  info := ⟨Try.t53, .slice none 0 0, by kernel_rfl, by kernel_rfl, by kernel_rfl, by kernel_rfl, by first | trivial | (simp [All2, zeroR, ty53, Value.cells]; done), fun h => by cases h⟩
  zlen := rfl
  kind := ⟨_, Try.underlying53, rfl⟩
  flds := fun fields h => by rw [Try.underlying53] at h; cases h
  elt := fun n e h => by rw [Try.underlying53] at h; cases h
  cmp := fun h => by cases h
def ty54 : TI := { k := .slice 99, size := 1, bytes := 24, zero := [.own 4 []], cmp := false }
theorem ok54 : TIOk Try.prog 54 ty54 where
  info := ⟨Try.t54, .slice none 0 0, by kernel_rfl, by kernel_rfl, by kernel_rfl, by kernel_rfl, by first | trivial | (simp [All2, zeroR, ty54, Value.cells]; done), fun h => by cases h⟩
  zlen := rfl
  kind := ⟨_, Try.underlying54, rfl⟩
  flds := fun fields h => by rw [Try.underlying54] at h; cases h
  elt := fun n e h => by rw [Try.underlying54] at h; cases h
  cmp := fun h => by cases h
def ty56 : TI := { k := .struct [(3, 0), (53, 1), (54, 2)], size := 3, bytes := 56, zero := [.t (.int .i64 0), .own 2 [], .own 4 []], cmp := false }
theorem ok56 : TIOk Try.prog 56 ty56 where
  info := ⟨Try.t56, .agg #[.int .i64 0, .slice none 0 0, .slice none 0 0], by kernel_rfl, by kernel_rfl, by kernel_rfl, by kernel_rfl, by first | trivial | (simp [All2, zeroR, ty56, Value.cells]; done), fun _ => ⟨_, rfl⟩⟩
  zlen := rfl
  kind := ⟨_, Try.underlying56, ⟨_, rfl, rfl, by kernel_rfl⟩⟩
  flds := fun fields h => by rw [Try.underlying56] at h; cases h; kernel_rfl
  elt := fun n e h => by rw [Try.underlying56] at h; cases h
  cmp := fun h => by cases h
def ty57 : TI := { k := .func, size := 1, bytes := 8, zero := [.t .nilf], cmp := false }
theorem ok57 : TIOk Try.prog 57 ty57 where
  info := ⟨Try.t57, .nilFunc, by kernel_rfl, by kernel_rfl, by kernel_rfl, by kernel_rfl, by first | trivial | (simp [All2, zeroR, ty57, Value.cells]; done), fun h => by cases h⟩
  zlen := rfl
  kind := ⟨_, Try.underlying57, ⟨_, _, _, rfl⟩⟩
  flds := fun fields h => by rw [Try.underlying57] at h; cases h
  elt := fun n e h => by rw [Try.underlying57] at h; cases h
  cmp := fun h => by cases h
def ty58 : TI := { k := .func, size := 1, bytes := 8, zero := [.t .nilf], cmp := false }
theorem ok58 : TIOk Try.prog 58 ty58 where
  info := ⟨Try.t58, .nilFunc, by kernel_rfl, by kernel_rfl, by kernel_rfl, by kernel_rfl, by first | trivial | (simp [All2, zeroR, ty58, Value.cells]; done), fun h => by cases h⟩
  zlen := rfl
  kind := ⟨_, Try.underlying58, ⟨_, _, _, rfl⟩⟩
  flds := fun fields h => by rw [Try.underlying58] at h; cases h
  elt := fun n e h => by rw [Try.underlying58] at h; cases h
  cmp := fun h => by cases h
def ty59 : TI := { k := .func, size := 1, bytes := 8, zero := [.t .nilf], cmp := false }
theorem ok59 : TIOk Try.prog 59 ty59 where
  info := ⟨Try.t59, .nilFunc, by kernel_rfl, by kernel_rfl, by kernel_rfl, by kernel_rfl, by first | trivial | (simp [All2, zeroR, ty59, Value.cells]; done), fun h => by cases h⟩
  zlen := rfl
  kind := ⟨_, Try.underlying59, ⟨_, _, _, rfl⟩⟩
  flds := fun fields h => by rw [Try.underlying59] at h; cases h
  elt := fun n e h => by rw [Try.underlying59] at h; cases h
  cmp := fun h => by cases h
def ty60 : TI := { k := .func, size := 1, bytes := 8, zero := [.t .nilf], cmp := false }
theorem ok60 : TIOk Try.prog 60 ty60 where
  info := ⟨Try.t60, .nilFunc, by kernel_rfl, by kernel_rfl, by kernel_rfl, by kernel_rfl, by first | trivial | (simp [All2, zeroR, ty60, Value.cells]; done), fun h => by cases h⟩
  zlen := rfl
  kind := ⟨_, Try.underlying60, ⟨_, _, _, rfl⟩⟩
  flds := fun fields h => by rw [Try.underlying60] at h; cases h
  elt := fun n e h => by rw [Try.underlying60] at h; cases h
  cmp := fun h => by cases h
def ty61 : TI := { k := .func, size := 1, bytes := 8, zero := [.t .nilf], cmp := false }
theorem ok61 : TIOk Try.prog 61 ty61 where
  info := ⟨Try.t61, .nilFunc, by kernel_rfl, by kernel_rfl, by kernel_rfl, by kernel_rfl, by first | trivial | (simp [All2, zeroR, ty61, Value.cells]; done), fun h => by cases h⟩
  zlen := rfl
  kind := ⟨_, Try.underlying61, ⟨_, _, _, rfl⟩⟩
  flds := fun fields h => by rw [Try.underlying61] at h; cases h
  elt := fun n e h => by rw [Try.underlying61] at h; cases h
  cmp := fun h => by cases h
def ty62 : TI := { k := .func, size := 1, bytes := 8, zero := [.t .nilf], cmp := false }
theorem ok62 : TIOk Try.prog 62 ty62 where
  info := ⟨Try.t62, .nilFunc, by kernel_rfl, by kernel_rfl, by kernel_rfl, by kernel_rfl, by first | trivial | (simp [All2, zeroR, ty62, Value.cells]; done), fun h => by cases h⟩
  zlen := rfl
  kind := ⟨_, Try.underlying62, ⟨_, _, _, rfl⟩⟩
  flds := fun fields h => by rw [Try.underlying62] at h; cases h
  elt := fun n e h => by rw [Try.underlying62] at h; cases h
  cmp := fun h => by cases h
def ty63 : TI := { k := .slice 3, size := 1, bytes := 24, zero := [.own 1 []], cmp := false }
theorem ok63 : TIOk Try.prog 63 ty63 where
  info := ⟨Try.t63, .slice none 0 0, by kernel_rfl, by kernel_rfl, by kernel_rfl, by kernel_rfl, by first | trivial | (simp [All2, zeroR, ty63, Value.cells]; done), fun h => by cases h⟩
  zlen := rfl
  kind := ⟨_, Try.underlying63, rfl⟩
  flds := fun fields h => by rw [Try.underlying63] at h; cases h
  elt := fun n e h => by rw [Try.underlying63] at h; cases h
  cmp := fun h => by cases h
def ty64 : TI := { k := .slice 94, size := 1, bytes := 24, zero := [.own 4 []], cmp := false }
theorem ok64 : TIOk Try.prog 64 ty64 where
  info := ⟨Try.t64, .slice none 0 0, by kernel_rfl, by kernel_rfl, by kernel_rfl, by kernel_rfl, by first | trivial | (simp [All2, zeroR, ty64, Value.cells]; done), fun h => by cases h⟩
  zlen := rfl
  kind := ⟨_, Try.underlying64, rfl⟩
  flds := fun fields h => by rw [Try.underlying64] at h; cases h
  elt := fun n e h => by rw [Try.underlying64] at h; cases h
  cmp := fun h => by cases h
def ty65 : TI := { k := .slice 91, size := 1, bytes := 24, zero := [.own 2 []], cmp := false }
theorem ok65 : TIOk Try.prog 65 ty65 where
  info := ⟨Try.t65, .slice none 0 0, by kernel_rfl, by kernel_rfl, by kernel_rfl, by kernel_rfl, by first | trivial | (simp [All2, zeroR, ty65, Value.cells]; done), fun h => by cases h⟩
  zlen := rfl
  kind := ⟨_, Try.underlying65, rfl⟩
  flds := fun fields h => by rw [Try.underlying65] at h; cases h
  elt := fun n e h => by rw [Try.underlying65] at h; cases h
  cmp := fun h => by cases h
def ty67 : TI := { k := .struct [(3, 0), (64, 1), (65, 2)], size := 3, bytes := 56, zero := [.t (.int .i64 0), .own 4 [], .own 2 []], cmp := false }
theorem ok67 : TIOk Try.prog 67 ty67 where
  info := ⟨Try.t67, .agg #[.int .i64 0, .slice none 0 0, .slice none 0 0], by kernel_rfl, by kernel_rfl, by kernel_rfl, by kernel_rfl, by first | trivial | (simp [All2, zeroR, ty67, Value.cells]; done), fun _ => ⟨_, rfl⟩⟩
  zlen := rfl
  kind := ⟨_, Try.underlying67, ⟨_, rfl, rfl, by kernel_rfl⟩⟩
  flds := fun fields h => by rw [Try.underlying67] at h; cases h; kernel_rfl
  elt := fun n e h => by rw [Try.underlying67] at h; cases h
  cmp := fun h => by cases h
def ty68 : TI := { k := .func, size := 1, bytes := 8, zero := [.t .nilf], cmp := false }
theorem ok68 : TIOk Try.prog 68 ty68 where
  info := ⟨Try.t68, .nilFunc, by kernel_rfl, by kernel_rfl, by kernel_rfl, by kernel_rfl, by first | trivial | (simp [All2, zeroR, ty68, Value.cells]; done), fun h => by cases h⟩
  zlen := rfl
  kind := ⟨_, Try.underlying68, ⟨_, _, _, rfl⟩⟩
  flds := fun fields h => by rw [Try.underlying68] at h; cases h
  elt := fun n e h => by rw [Try.underlying68] at h; cases h
  cmp := fun h => by cases h
def ty69 : TI := { k := .func, size := 1, bytes := 8, zero := [.t .nilf], cmp := false }
theorem ok69 : TIOk Try.prog 69 ty69 where
  info := ⟨Try.t69, .nilFunc, by kernel_rfl, by kernel_rfl, by kernel_rfl, by kernel_rfl, by first | trivial | (simp [All2, zeroR, ty69, Value.cells]; done), fun h => by cases h⟩
  zlen := rfl
  kind := ⟨_, Try.underlying69, ⟨_, _, _, rfl⟩⟩
  flds := fun fields h => by rw [Try.underlying69] at h; cases h
  elt := fun n e h => by rw [Try.underlying69] at h; cases h
  cmp := fun h => by cases h
def ty71 : TI := { k := .func, size := 1, bytes := 8, zero := [.t .nilf], cmp := false }
theorem ok71 : TIOk Try.prog 71 ty71 where
  info := ⟨Try.t71, .nilFunc, by kernel_rfl, by kernel_rfl, by kernel_rfl, by kernel_rfl, by first | trivial | (simp [All2, zeroR, ty71, Value.cells]; done), fun h => by cases h⟩
  zlen := rfl
  kind := ⟨_, Try.underlying71, ⟨_, _, _, rfl⟩⟩
  flds := fun fields h => by rw [Try.underlying71] at h; cases h
  elt := fun n e h => by rw [Try.underlying71] at h; cases h
  cmp := fun h => by cases h
def ty72 : TI := { k := .func, size := 1, bytes := 8, zero := [.t .nilf], cmp := false }
theorem ok72 : TIOk Try.prog 72 ty72 where
  info := ⟨Try.t72, .nilFunc, by kernel_rfl, by kernel_rfl, by kernel_rfl, by kernel_rfl, by first | trivial | (simp [All2, zeroR, ty72, Value.cells]; done), fun h => by cases h⟩
  zlen := rfl
  kind := ⟨_, Try.underlying72, ⟨_, _, _, rfl⟩⟩
  flds := fun fields h => by rw [Try.underlying72] at h; cases h
  elt := fun n e h => by rw [Try.underlying72] at h; cases h
  cmp := fun h => by cases h
def ty73 : TI := { k := .slice 78, size := 1, bytes := 24, zero := [.own 2 []], cmp := false }
theorem ok73 : TIOk Try.prog 73 ty73 where
  info := ⟨Try.t73, .slice none 0 0, by kernel_rfl, by kernel_rfl, by kernel_rfl, by kernel_rfl, by first | trivial | (simp [All2, zeroR, ty73, Value.cells]; done), fun h => by cases h⟩
  zlen := rfl
  kind := ⟨_, Try.underlying73, rfl⟩
  flds := fun fields h => by rw [Try.underlying73] at h; cases h
  elt := fun n e h => by rw [Try.underlying73] at h; cases h
  cmp := fun h => by cases h
def ty74 : TI := { k := .func, size := 1, bytes := 8, zero := [.t .nilf], cmp := false }
theorem ok74 : TIOk Try.prog 74 ty74 where
  info := ⟨Try.t74, .nilFunc, by kernel_rfl, by kernel_rfl, by kernel_rfl, by kernel_rfl, by first | trivial | (simp [All2, zeroR, ty74, Value.cells]; done), fun h => by cases h⟩
  zlen := rfl
  kind := ⟨_, Try.underlying74, ⟨_, _, _, rfl⟩⟩
  flds := fun fields h => by rw [Try.underlying74] at h; cases h
  elt := fun n e h => by rw [Try.underlying74] at h; cases h
  cmp := fun h => by cases h
def ty75 : TI := { k := .func, size := 1, bytes := 8, zero := [.t .nilf], cmp := false }
theorem ok75 : TIOk Try.prog 75 ty75 where
  info := ⟨Try.t75, .nilFunc, by kernel_rfl, by kernel_rfl, by kernel_rfl, by kernel_rfl, by first | trivial | (simp [All2, zeroR, ty75, Value.cells]; done), fun h => by cases h⟩
  zlen := rfl
  kind := ⟨_, Try.underlying75, ⟨_, _, _, rfl⟩⟩
  flds := fun fields h => by rw [Try.underlying75] at h; cases h
  elt := fun n e h => by rw [Try.underlying75] at h; cases h
  cmp := fun h => by cases h
def ty76 : TI := { k := .func, size := 1, bytes := 8, zero := [.t .nilf], cmp := false }
theorem ok76 : TIOk Try.prog 76 ty76 where
  info := ⟨Try.t76, .nilFunc, by kernel_rfl, by kernel_rfl, by kernel_rfl, by kernel_rfl, by first | trivial | (simp [All2, zeroR, ty76, Value.cells]; done), fun h => by cases h⟩
  zlen := rfl
  kind := ⟨_, Try.underlying76, ⟨_, _, _, rfl⟩⟩
  flds := fun fields h => by rw [Try.underlying76] at h; cases h
  elt := fun n e h => by rw [Try.underlying76] at h; cases h
  cmp := fun h => by cases h
def ty78 : TI := { k := .struct [(9, 0), (76, 1)], size := 2, bytes := 24, zero := [.t (.str "".toUTF8), .t .nilf], cmp := false }
theorem ok78 : TIOk Try.prog 78 ty78 where
  info := ⟨Try.t78, .agg #[.string "".toUTF8, .nilFunc], by kernel_rfl, by kernel_rfl, by kernel_rfl, by kernel_rfl, by first | trivial | (simp [All2, zeroR, ty78, Value.cells]; done), fun _ => ⟨_, rfl⟩⟩
  zlen := rfl
  kind := ⟨_, Try.underlying78, ⟨_, rfl, rfl, by kernel_rfl⟩⟩
  flds := fun fields h => by rw [Try.underlying78] at h; cases h; kernel_rfl
  elt := fun n e h => by rw [Try.underlying78] at h; cases h
  cmp := fun h => by cases h
def ty79 : TI := { k := .func, size := 1, bytes := 8, zero := [.t .nilf], cmp := false }
theorem ok79 : TIOk Try.prog 79 ty79 where
  info := ⟨Try.t79, .nilFunc, by kernel_rfl, by kernel_rfl, by kernel_rfl, by kernel_rfl, by first | trivial | (simp [All2, zeroR, ty79, Value.cells]; done), fun h => by cases h⟩
  zlen := rfl
  kind := ⟨_, Try.underlying79, ⟨_, _, _, rfl⟩⟩
  flds := fun fields h => by rw [Try.underlying79] at h; cases h
  elt := fun n e h => by rw [Try.underlying79] at h; cases h
  cmp := fun h => by cases h
def ty80 : TI := { k := .func, size := 1, bytes := 8, zero := [.t .nilf], cmp := false }
theorem ok80 : TIOk Try.prog 80 ty80 where
  info := ⟨Try.t80, .nilFunc, by kernel_rfl, by kernel_rfl, by kernel_rfl, by kernel_rfl, by first | trivial | (simp [All2, zeroR, ty80, Value.cells]; done), fun h => by cases h⟩
  zlen := rfl
  kind := ⟨_, Try.underlying80, ⟨_, _, _, rfl⟩⟩
  flds := fun fields h => by rw [Try.underlying80] at h; cases h
  elt := fun n e h => by rw [Try.underlying80] at h; cases h
  cmp := fun h => by cases h
def ty81 : TI := { k := .func, size := 1, bytes := 8, zero := [.t .nilf], cmp := false }
theorem ok81 : TIOk Try.prog 81 ty81 where
  info := ⟨Try.t81, .nilFunc, by kernel_rfl, by kernel_rfl, by kernel_rfl, by kernel_rfl, by first | trivial | (simp [All2, zeroR, ty81, Value.cells]; done), fun h => by cases h⟩
  zlen := rfl
  kind := ⟨_, Try.underlying81, ⟨_, _, _, rfl⟩⟩
  flds := fun fields h => by rw [Try.underlying81] at h; cases h
  elt := fun n e h => by rw [Try.underlying81] at h; cases h
  cmp := fun h => by cases h
def ty83 : TI := { k := .func, size := 1, bytes := 8, zero := [.t .nilf], cmp := false }
theorem ok83 : TIOk Try.prog 83 ty83 where
  info := ⟨Try.t83, .nilFunc, by kernel_rfl, by kernel_rfl, by kernel_rfl, by kernel_rfl, by first | trivial | (simp [All2, zeroR, ty83, Value.cells]; done), fun h => by cases h⟩
  zlen := rfl
  kind := ⟨_, Try.underlying83, ⟨_, _, _, rfl⟩⟩
  flds := fun fields h => by rw [Try.underlying83] at h; cases h
  elt := fun n e h => by rw [Try.underlying83] at h; cases h
  cmp := fun h => by cases h
def ty84 : TI := { k := .func, size := 1, bytes := 8, zero := [.t .nilf], cmp := false }
theorem ok84 : TIOk Try.prog 84 ty84 where
  info := ⟨Try.t84, .nilFunc, by kernel_rfl, by kernel_rfl, by kernel_rfl, by kernel_rfl, by first | trivial | (simp [All2, zeroR, ty84, Value.cells]; done), fun h => by cases h⟩
  zlen := rfl
  kind := ⟨_, Try.underlying84, ⟨_, _, _, rfl⟩⟩
  flds := fun fields h => by rw [Try.underlying84] at h; cases h
  elt := fun n e h => by rw [Try.underlying84] at h; cases h
  cmp := fun h => by cases h
def ty85 : TI := { k := .func, size := 1, bytes := 8, zero := [.t .nilf], cmp := false }
theorem ok85 : TIOk Try.prog 85 ty85 where
  info := ⟨Try.t85, .nilFunc, by kernel_rfl, by kernel_rfl, by kernel_rfl, by kernel_rfl, by first | trivial | (simp [All2, zeroR, ty85, Value.cells]; done), fun h => by cases h⟩
  zlen := rfl
  kind := ⟨_, Try.underlying85, ⟨_, _, _, rfl⟩⟩
  flds := fun fields h => by rw [Try.underlying85] at h; cases h
  elt := fun n e h => by rw [Try.underlying85] at h; cases h
  cmp := fun h => by cases h
def ty86 : TI := { k := .func, size := 1, bytes := 8, zero := [.t .nilf], cmp := false }
theorem ok86 : TIOk Try.prog 86 ty86 where
  info := ⟨Try.t86, .nilFunc, by kernel_rfl, by kernel_rfl, by kernel_rfl, by kernel_rfl, by first | trivial | (simp [All2, zeroR, ty86, Value.cells]; done), fun h => by cases h⟩
  zlen := rfl
  kind := ⟨_, Try.underlying86, ⟨_, _, _, rfl⟩⟩
  flds := fun fields h => by rw [Try.underlying86] at h; cases h
  elt := fun n e h => by rw [Try.underlying86] at h; cases h
  cmp := fun h => by cases h
def ty87 : TI := { k := .int .u64, size := 1, bytes := 8, zero := [.t (.int .u64 0)], cmp := false }
theorem ok87 : TIOk Try.prog 87 ty87 where
  info := ⟨Try.t87, .int .u64 0, by kernel_rfl, by kernel_rfl, by kernel_rfl, by kernel_rfl, by first | trivial | (simp [All2, zeroR, ty87, Value.cells]; done), fun h => by cases h⟩
  zlen := rfl
  kind := ⟨_, Try.underlying87, rfl⟩
  flds := fun fields h => by rw [Try.underlying87] at h; cases h
  elt := fun n e h => by rw [Try.underlying87] at h; cases h
  cmp := fun h => by cases h
def ty88 : TI := { k := .func, size := 1, bytes := 8, zero := [.t .nilf], cmp := false }
theorem ok88 : TIOk Try.prog 88 ty88 where
  info := ⟨Try.t88, .nilFunc, by kernel_rfl, by kernel_rfl, by kernel_rfl, by kernel_rfl, by first | trivial | (simp [All2, zeroR, ty88, Value.cells]; done), fun h => by cases h⟩
  zlen := rfl
  kind := ⟨_, Try.underlying88, ⟨_, _, _, rfl⟩⟩
  flds := fun fields h => by rw [Try.underlying88] at h; cases h
  elt := fun n e h => by rw [Try.underlying88] at h; cases h
  cmp := fun h => by cases h
def ty89 : TI := { k := .func, size := 1, bytes := 8, zero := [.t .nilf], cmp := false }
theorem ok89 : TIOk Try.prog 89 ty89 where
  info := ⟨Try.t89, .nilFunc, by kernel_rfl, by kernel_rfl, by kernel_rfl, by kernel_rfl, by first | trivial | (simp [All2, zeroR, ty89, Value.cells]; done), fun h => by cases h⟩
  zlen := rfl
  kind := ⟨_, Try.underlying89, ⟨_, _, _, rfl⟩⟩
  flds := fun fields h => by rw [Try.underlying89] at h; cases h
  elt := fun n e h => by rw [Try.underlying89] at h; cases h
  cmp := fun h => by cases h
def ty91 : TI := { k := .struct [(3, 0), (3, 1)], size := 2, bytes := 16, zero := [.t (.int .i64 0), .t (.int .i64 0)], cmp := true }
theorem ok91 : TIOk Try.prog 91 ty91 where
  info := ⟨Try.t91, .agg #[.int .i64 0, .int .i64 0], by kernel_rfl, by kernel_rfl, by kernel_rfl, by kernel_rfl, by first | trivial | (simp [All2, zeroR, ty91, Value.cells]; done), fun _ => ⟨_, rfl⟩⟩
  zlen := rfl
  kind := ⟨_, Try.underlying91, ⟨_, rfl, rfl, by kernel_rfl⟩⟩
  flds := fun fields h => by rw [Try.underlying91] at h; cases h; kernel_rfl
  elt := fun n e h => by rw [Try.underlying91] at h; cases h
  cmp := fun h => ⟨by kernel_rfl, by kernel_rfl⟩
def ty92 : TI := { k := .func, size := 1, bytes := 8, zero := [.t .nilf], cmp := false }
theorem ok92 : TIOk Try.prog 92 ty92 where
  info := ⟨Try.t92, .nilFunc, by kernel_rfl, by kernel_rfl, by kernel_rfl, by kernel_rfl, by first | trivial | (simp [All2, zeroR, ty92, Value.cells]; done), fun h => by cases h⟩
  zlen := rfl
  kind := ⟨_, Try.underlying92, ⟨_, _, _, rfl⟩⟩
  flds := fun fields h => by rw [Try.underlying92] at h; cases h
  elt := fun n e h => by rw [Try.underlying92] at h; cases h
  cmp := fun h => by cases h
def ty94 : TI := { k := .struct [(3, 0), (3, 1), (3, 2), (3, 3)], size := 4, bytes := 32, zero := [.t (.int .i64 0), .t (.int .i64 0), .t (.int .i64 0), .t (.int .i64 0)], cmp := true }
theorem ok94 : TIOk Try.prog 94 ty94 where
  info := ⟨Try.t94, .agg #[.int .i64 0, .int .i64 0, .int .i64 0, .int .i64 0], by kernel_rfl, by kernel_rfl, by kernel_rfl, by kernel_rfl, by first | trivial | (simp [All2, zeroR, ty94, Value.cells]; done), fun _ => ⟨_, rfl⟩⟩
  zlen := rfl
  kind := ⟨_, Try.underlying94, ⟨_, rfl, rfl, by kernel_rfl⟩⟩
  flds := fun fields h => by rw [Try.underlying94] at h; cases h; kernel_rfl
  elt := fun n e h => by rw [Try.underlying94] at h; cases h
  cmp := fun h => ⟨by kernel_rfl, by kernel_rfl⟩
def ty95 : TI := { k := .func, size := 1, bytes := 8, zero := [.t .nilf], cmp := false }
theorem ok95 : TIOk Try.prog 95 ty95 where
  info := ⟨Try.t95, .nilFunc, by kernel_rfl, by kernel_rfl, by kernel_rfl, by kernel_rfl, by first | trivial | (simp [All2, zeroR, ty95, Value.cells]; done), fun h => by cases h⟩
  zlen := rfl
  kind := ⟨_, Try.underlying95, ⟨_, _, _, rfl⟩⟩
  flds := fun fields h => by rw [Try.underlying95] at h; cases h
  elt := fun n e h => by rw [Try.underlying95] at h; cases h
  cmp := fun h => by cases h
def ty96 : TI := { k := .func, size := 1, bytes := 8, zero := [.t .nilf], cmp := false }
theorem ok96 : TIOk Try.prog 96 ty96 where
  info := ⟨Try.t96, .nilFunc, by kernel_rfl, by kernel_rfl, by kernel_rfl, by kernel_rfl, by first | trivial | (simp [All2, zeroR, ty96, Value.cells]; done), fun h => by cases h⟩
  zlen := rfl
  kind := ⟨_, Try.underlying96, ⟨_, _, _, rfl⟩⟩
  flds := fun fields h => by rw [Try.underlying96] at h; cases h
  elt := fun n e h => by rw [Try.underlying96] at h; cases h
  cmp := fun h => by cases h
def ty97 : TI := { k := .func, size := 1, bytes := 8, zero := [.t .nilf], cmp := false }
theorem ok97 : TIOk Try.prog 97 ty97 where
  info := ⟨Try.t97, .nilFunc, by kernel_rfl, by kernel_rfl, by kernel_rfl, by kernel_rfl, by first | trivial | (simp [All2, zeroR, ty97, Value.cells]; done), fun h => by cases h⟩
  zlen := rfl
  kind := ⟨_, Try.underlying97, ⟨_, _, _, rfl⟩⟩
  flds := fun fields h => by rw [Try.underlying97] at h; cases h
  elt := fun n e h => by rw [Try.underlying97] at h; cases h
  cmp := fun h => by cases h
def ty99 : TI := { k := .struct [(9, 0), (40, 1)], size := 4, bytes := 48, zero := [.t (.str "".toUTF8), .t (.int .i64 0), .t (.int .i64 0), .t (.str "".toUTF8)], cmp := false }
theorem ok99 : TIOk Try.prog 99 ty99 where
  info := ⟨Try.t99, .agg #[.string "".toUTF8, .int .i64 0, .int .i64 0, .string "".toUTF8], by kernel_rfl, by kernel_rfl, by kernel_rfl, by kernel_rfl, by first | trivial | (simp [All2, zeroR, ty99, Value.cells]; done), fun _ => ⟨_, rfl⟩⟩
  zlen := rfl
  kind := ⟨_, Try.underlying99, ⟨_, rfl, rfl, by kernel_rfl⟩⟩
  flds := fun fields h => by rw [Try.underlying99] at h; cases h; kernel_rfl
  elt := fun n e h => by rw [Try.underlying99] at h; cases h
  cmp := fun h => by cases h
def ty100 : TI := { k := .int .u64, size := 1, bytes := 8, zero := [.t (.int .u64 0)], cmp := false }
theorem ok100 : TIOk Try.prog 100 ty100 where
  info := ⟨Try.t100, .int .u64 0, by kernel_rfl, by kernel_rfl, by kernel_rfl, by kernel_rfl, by first | trivial | (simp [All2, zeroR, ty100, Value.cells]; done), fun h => by cases h⟩
  zlen := rfl
  kind := ⟨_, Try.underlying100, rfl⟩
  flds := fun fields h => by rw [Try.underlying100] at h; cases h
  elt := fun n e h => by rw [Try.underlying100] at h; cases h
  cmp := fun h => by cases h
def ty101 : TI := { k := .slice 5, size := 1, bytes := 24, zero := [.own 1 []], cmp := false }
theorem ok101 : TIOk Try.prog 101 ty101 where
  info := ⟨Try.t101, .slice none 0 0, by kernel_rfl, by kernel_rfl, by kernel_rfl, by kernel_rfl, by first | trivial | (simp [All2, zeroR, ty101, Value.cells]; done), fun h => by cases h⟩
  zlen := rfl
  kind := ⟨_, Try.underlying101, rfl⟩
  flds := fun fields h => by rw [Try.underlying101] at h; cases h
  elt := fun n e h => by rw [Try.underlying101] at h; cases h
  cmp := fun h => by cases h
def ty103 : TI := { k := .func, size := 1, bytes := 8, zero := [.t .nilf], cmp := false }
theorem ok103 : TIOk Try.prog 103 ty103 where
  info := ⟨Try.t103, .nilFunc, by kernel_rfl, by kernel_rfl, by kernel_rfl, by kernel_rfl, by first | trivial | (simp [All2, zeroR, ty103, Value.cells]; done), fun h => by cases h⟩
  zlen := rfl
  kind := ⟨_, Try.underlying103, ⟨_, _, _, rfl⟩⟩
  flds := fun fields h => by rw [Try.underlying103] at h; cases h
  elt := fun n e h => by rw [Try.underlying103] at h; cases h
  cmp := fun h => by cases h
def ty105 : TI := { k := .func, size := 1, bytes := 8, zero := [.t .nilf], cmp := false }
theorem ok105 : TIOk Try.prog 105 ty105 where
  info := ⟨Try.t105, .nilFunc, by kernel_rfl, by kernel_rfl, by kernel_rfl, by kernel_rfl, by first | trivial | (simp [All2, zeroR, ty105, Value.cells]; done), fun h => by cases h⟩
  zlen := rfl
  kind := ⟨_, Try.underlying105, ⟨_, _, _, rfl⟩⟩
  flds := fun fields h => by rw [Try.underlying105] at h; cases h
  elt := fun n e h => by rw [Try.underlying105] at h; cases h
  cmp := fun h => by cases h
def ty106 : TI := { k := .func, size := 1, bytes := 8, zero := [.t .nilf], cmp := false }
theorem ok106 : TIOk Try.prog 106 ty106 where
  info := ⟨Try.t106, .nilFunc, by kernel_rfl, by kernel_rfl, by kernel_rfl, by kernel_rfl, by first | trivial | (simp [All2, zeroR, ty106, Value.cells]; done), fun h => by cases h⟩
  zlen := rfl
  kind := ⟨_, Try.underlying106, ⟨_, _, _, rfl⟩⟩
  flds := fun fields h => by rw [Try.underlying106] at h; cases h
  elt := fun n e h => by rw [Try.underlying106] at h; cases h
  cmp := fun h => by cases h
def ty108 : TI := { k := .func, size := 1, bytes := 8, zero := [.t .nilf], cmp := false }
theorem ok108 : TIOk Try.prog 108 ty108 where
  info := ⟨Try.t108, .nilFunc, by kernel_rfl, by kernel_rfl, by kernel_rfl, by kernel_rfl, by first | trivial | (simp [All2, zeroR, ty108, Value.cells]; done), fun h => by cases h⟩
  zlen := rfl
  kind := ⟨_, Try.underlying108, ⟨_, _, _, rfl⟩⟩
  flds := fun fields h => by rw [Try.underlying108] at h; cases h
  elt := fun n e h => by rw [Try.underlying108] at h; cases h
  cmp := fun h => by cases h
def ty109 : TI := { k := .func, size := 1, bytes := 8, zero := [.t .nilf], cmp := false }
theorem ok109 : TIOk Try.prog 109 ty109 where
  info := ⟨Try.t109, .nilFunc, by kernel_rfl, by kernel_rfl, by kernel_rfl, by kernel_rfl, by first | trivial | (simp [All2, zeroR, ty109, Value.cells]; done), fun h => by cases h⟩
  zlen := rfl
  kind := ⟨_, Try.underlying109, ⟨_, _, _, rfl⟩⟩
  flds := fun fields h => by rw [Try.underlying109] at h; cases h
  elt := fun n e h => by rw [Try.underlying109] at h; cases h
  cmp := fun h => by cases h
def ty110 : TI := { k := .func, size := 1, bytes := 8, zero := [.t .nilf], cmp := false }
theorem ok110 : TIOk Try.prog 110 ty110 where
  info := ⟨Try.t110, .nilFunc, by kernel_rfl, by kernel_rfl, by kernel_rfl, by kernel_rfl, by first | trivial | (simp [All2, zeroR, ty110, Value.cells]; done), fun h => by cases h⟩
  zlen := rfl
  kind := ⟨_, Try.underlying110, ⟨_, _, _, rfl⟩⟩
  flds := fun fields h => by rw [Try.underlying110] at h; cases h
  elt := fun n e h => by rw [Try.underlying110] at h; cases h
  cmp := fun h => by cases h
def ty111 : TI := { k := .func, size := 1, bytes := 8, zero := [.t .nilf], cmp := false }
theorem ok111 : TIOk Try.prog 111 ty111 where
  info := ⟨Try.t111, .nilFunc, by kernel_rfl, by kernel_rfl, by kernel_rfl, by kernel_rfl, by first | trivial | (simp [All2, zeroR, ty111, Value.cells]; done), fun h => by cases h⟩
  zlen := rfl
  kind := ⟨_, Try.underlying111, ⟨_, _, _, rfl⟩⟩
  flds := fun fields h => by rw [Try.underlying111] at h; cases h
  elt := fun n e h => by rw [Try.underlying111] at h; cases h
  cmp := fun h => by cases h
def ty112 : TI := { k := .map 9 3, size := 1, bytes := 8, zero := [.t .nilm], cmp := false }
theorem ok112 : TIOk Try.prog 112 ty112 where
  info := ⟨Try.t112, .map none, by kernel_rfl, by kernel_rfl, by kernel_rfl, by kernel_rfl, by first | trivial | (simp [All2, zeroR, ty112, Value.cells]; done), fun h => by cases h⟩
  zlen := rfl
  kind := ⟨_, Try.underlying112, rfl⟩
  flds := fun fields h => by rw [Try.underlying112] at h; cases h
  elt := fun n e h => by rw [Try.underlying112] at h; cases h
  cmp := fun h => by cases h
def ty114 : TI := { k := .func, size := 1, bytes := 8, zero := [.t .nilf], cmp := false }
theorem ok114 : TIOk Try.prog 114 ty114 where
  info := ⟨Try.t114, .nilFunc, by kernel_rfl, by kernel_rfl, by kernel_rfl, by kernel_rfl, by first | trivial | (simp [All2, zeroR, ty114, Value.cells]; done), fun h => by cases h⟩
  zlen := rfl
  kind := ⟨_, Try.underlying114, ⟨_, _, _, rfl⟩⟩
  flds := fun fields h => by rw [Try.underlying114] at h; cases h
  elt := fun n e h => by rw [Try.underlying114] at h; cases h
  cmp := fun h => by cases h
def ty115 : TI := { k := .func, size := 1, bytes := 8, zero := [.t .nilf], cmp := false }
theorem ok115 : TIOk Try.prog 115 ty115 where
  info := ⟨Try.t115, .nilFunc, by kernel_rfl, by kernel_rfl, by kernel_rfl, by kernel_rfl, by first | trivial | (simp [All2, zeroR, ty115, Value.cells]; done), fun h => by cases h⟩
  zlen := rfl
  kind := ⟨_, Try.underlying115, ⟨_, _, _, rfl⟩⟩
  flds := fun fields h => by rw [Try.underlying115] at h; cases h
  elt := fun n e h => by rw [Try.underlying115] at h; cases h
  cmp := fun h => by cases h
def ty116 : TI := { k := .func, size := 1, bytes := 8, zero := [.t .nilf], cmp := false }
theorem ok116 : TIOk Try.prog 116 ty116 where
  info := ⟨Try.t116, .nilFunc, by kernel_rfl, by kernel_rfl, by kernel_rfl, by kernel_rfl, by first | trivial | (simp [All2, zeroR, ty116, Value.cells]; done), fun h => by cases h⟩
  zlen := rfl
  kind := ⟨_, Try.underlying116, ⟨_, _, _, rfl⟩⟩
  flds := fun fields h => by rw [Try.underlying116] at h; cases h
  elt := fun n e h => by rw [Try.underlying116] at h; cases h
  cmp := fun h => by cases h
def ty117 : TI := { k := .func, size := 1, bytes := 8, zero := [.t .nilf], cmp := false }
theorem ok117 : TIOk Try.prog 117 ty117 where
  info := ⟨Try.t117, .nilFunc, by kernel_rfl, by kernel_rfl, by kernel_rfl, by kernel_rfl, by first | trivial | (simp [All2, zeroR, ty117, Value.cells]; done), fun h => by cases h⟩
  zlen := rfl
  kind := ⟨_, Try.underlying117, ⟨_, _, _, rfl⟩⟩
  flds := fun fields h => by rw [Try.underlying117] at h; cases h
  elt := fun n e h => by rw [Try.underlying117] at h; cases h
  cmp := fun h => by cases h
def ty120 : TI := { k := .arr 0 16, size := 0, bytes := 0, zero := [], cmp := false }
theorem ok120 : TIOk Try.prog 120 ty120 where
  info := ⟨Try.t120, .agg #[], by kernel_rfl, by kernel_rfl, by kernel_rfl, by kernel_rfl, by first | trivial | (simp [All2, zeroR, ty120, Value.cells]; done), fun _ => ⟨_, rfl⟩⟩
  zlen := rfl
  kind := ⟨_, Try.underlying120, rfl⟩
  flds := fun fields h => by rw [Try.underlying120] at h; cases h
  elt := fun n e h => by rw [Try.underlying120] at h; cases h; kernel_rfl
  cmp := fun h => by cases h
def ty123 : TI := { k := .func, size := 1, bytes := 8, zero := [.t .nilf], cmp := false }
theorem ok123 : TIOk Try.prog 123 ty123 where
  info := ⟨Try.t123, .nilFunc, by kernel_rfl, by kernel_rfl, by kernel_rfl, by kernel_rfl, by first | trivial | (simp [All2, zeroR, ty123, Value.cells]; done), fun h => by cases h⟩
  zlen := rfl
  kind := ⟨_, Try.underlying123, ⟨_, _, _, rfl⟩⟩
  flds := fun fields h => by rw [Try.underlying123] at h; cases h
  elt := fun n e h => by rw [Try.underlying123] at h; cases h
  cmp := fun h => by cases h
def ty124 : TI := { k := .int .u32, size := 1, bytes := 4, zero := [.t (.int .u32 0)], cmp := false }
theorem ok124 : TIOk Try.prog 124 ty124 where
  info := ⟨Try.t124, .int .u32 0, by kernel_rfl, by kernel_rfl, by kernel_rfl, by kernel_rfl, by first | trivial | (simp [All2, zeroR, ty124, Value.cells]; done), fun h => by cases h⟩
  zlen := rfl
  kind := ⟨_, Try.underlying124, rfl⟩
  flds := fun fields h => by rw [Try.underlying124] at h; cases h
  elt := fun n e h => by rw [Try.underlying124] at h; cases h
  cmp := fun h => by cases h
def ty127 : TI := { k := .func, size := 1, bytes := 8, zero := [.t .nilf], cmp := false }
theorem ok127 : TIOk Try.prog 127 ty127 where
  info := ⟨Try.t127, .nilFunc, by kernel_rfl, by kernel_rfl, by kernel_rfl, by kernel_rfl, by first | trivial | (simp [All2, zeroR, ty127, Value.cells]; done), fun h => by cases h⟩
  zlen := rfl
  kind := ⟨_, Try.underlying127, ⟨_, _, _, rfl⟩⟩
  flds := fun fields h => by rw [Try.underlying127] at h; cases h
  elt := fun n e h => by rw [Try.underlying127] at h; cases h
  cmp := fun h => by cases h
def ty128 : TI := { k := .ptr 5, size := 1, bytes := 8, zero := [.t .nilp], cmp := false }
theorem ok128 : TIOk Try.prog 128 ty128 where
  info := ⟨Try.t128, .pointer none, by kernel_rfl, by kernel_rfl, by kernel_rfl, by kernel_rfl, by first | trivial | (simp [All2, zeroR, ty128, Value.cells]; done), fun h => by cases h⟩
  zlen := rfl
  kind := ⟨_, Try.underlying128, rfl⟩
  flds := fun fields h => by rw [Try.underlying128] at h; cases h
  elt := fun n e h => by rw [Try.underlying128] at h; cases h
  cmp := fun h => by cases h
def ty134 : TI := { k := .struct [(9, 0), (63, 1)], size := 2, bytes := 40, zero := [.t (.str "".toUTF8), .own 1 []], cmp := false }
theorem ok134 : TIOk Try.prog 134 ty134 where
  info := ⟨Try.t134, .agg #[.string "".toUTF8, .slice none 0 0], by kernel_rfl, by kernel_rfl, by kernel_rfl, by kernel_rfl, by first | trivial | (simp [All2, zeroR, ty134, Value.cells]; done), fun _ => ⟨_, rfl⟩⟩
  zlen := rfl
  kind := ⟨_, Try.underlying134, ⟨_, rfl, rfl, by kernel_rfl⟩⟩
  flds := fun fields h => by rw [Try.underlying134] at h; cases h; kernel_rfl
  elt := fun n e h => by rw [Try.underlying134] at h; cases h
  cmp := fun h => by cases h
def T : TypeId → Option TI
  | 1 => some ty1
  | 2 => some ty2
  | 3 => some ty3
  | 4 => some ty4
  | 5 => some ty5
  | 9 => some ty9
  | 12 => some ty12
  | 19 => some ty19
  | 20 => some ty20
  | 21 => some ty21
  | 23 => some ty23
  | 24 => some ty24
  | 25 => some ty25
  | 26 => some ty26
  | 27 => some ty27
  | 28 => some ty28
  | 30 => some ty30
  | 31 => some ty31
  | 33 => some ty33
  | 35 => some ty35
  | 36 => some ty36
  | 37 => some ty37
  | 38 => some ty38
  | 40 => some ty40
  | 41 => some ty41
  | 43 => some ty43
  | 44 => some ty44
  | 45 => some ty45
  | 46 => some ty46
  | 47 => some ty47
  | 49 => some ty49
  | 50 => some ty50
  | 51 => some ty51
  | 52 => some ty52
  | 53 => some ty53
  | 54 => some ty54
  | 56 => some ty56
  | 57 => some ty57
  | 58 => some ty58
  | 59 => some ty59
  | 60 => some ty60
  | 61 => some ty61
  | 62 => some ty62
  | 63 => some ty63
  | 64 => some ty64
  | 65 => some ty65
  | 67 => some ty67
  | 68 => some ty68
  | 69 => some ty69
  | 71 => some ty71
  | 72 => some ty72
  | 73 => some ty73
  | 74 => some ty74
  | 75 => some ty75
  | 76 => some ty76
  | 78 => some ty78
  | 79 => some ty79
  | 80 => some ty80
  | 81 => some ty81
  | 83 => some ty83
  | 84 => some ty84
  | 85 => some ty85
  | 86 => some ty86
  | 87 => some ty87
  | 88 => some ty88
  | 89 => some ty89
  | 91 => some ty91
  | 92 => some ty92
  | 94 => some ty94
  | 95 => some ty95
  | 96 => some ty96
  | 97 => some ty97
  | 99 => some ty99
  | 100 => some ty100
  | 101 => some ty101
  | 103 => some ty103
  | 105 => some ty105
  | 106 => some ty106
  | 108 => some ty108
  | 109 => some ty109
  | 110 => some ty110
  | 111 => some ty111
  | 112 => some ty112
  | 114 => some ty114
  | 115 => some ty115
  | 116 => some ty116
  | 117 => some ty117
  | 120 => some ty120
  | 123 => some ty123
  | 124 => some ty124
  | 127 => some ty127
  | 128 => some ty128
  | 134 => some ty134
  | _ => none
theorem tOk : TOk Try.prog T := by
  intro t ti h
  unfold T at h
  split at h
  · cases h; exact ok1
  · cases h; exact ok2
  · cases h; exact ok3
  · cases h; exact ok4
  · cases h; exact ok5
  · cases h; exact ok9
  · cases h; exact ok12
  · cases h; exact ok19
  · cases h; exact ok20
  · cases h; exact ok21
  · cases h; exact ok23
  · cases h; exact ok24
  · cases h; exact ok25
  · cases h; exact ok26
  · cases h; exact ok27
  · cases h; exact ok28
  · cases h; exact ok30
  · cases h; exact ok31
  · cases h; exact ok33
  · cases h; exact ok35
  · cases h; exact ok36
  · cases h; exact ok37
  · cases h; exact ok38
  · cases h; exact ok40
  · cases h; exact ok41
  · cases h; exact ok43
  · cases h; exact ok44
  · cases h; exact ok45
  · cases h; exact ok46
  · cases h; exact ok47
  · cases h; exact ok49
  · cases h; exact ok50
  · cases h; exact ok51
  · cases h; exact ok52
  · cases h; exact ok53
  · cases h; exact ok54
  · cases h; exact ok56
  · cases h; exact ok57
  · cases h; exact ok58
  · cases h; exact ok59
  · cases h; exact ok60
  · cases h; exact ok61
  · cases h; exact ok62
  · cases h; exact ok63
  · cases h; exact ok64
  · cases h; exact ok65
  · cases h; exact ok67
  · cases h; exact ok68
  · cases h; exact ok69
  · cases h; exact ok71
  · cases h; exact ok72
  · cases h; exact ok73
  · cases h; exact ok74
  · cases h; exact ok75
  · cases h; exact ok76
  · cases h; exact ok78
  · cases h; exact ok79
  · cases h; exact ok80
  · cases h; exact ok81
  · cases h; exact ok83
  · cases h; exact ok84
  · cases h; exact ok85
  · cases h; exact ok86
  · cases h; exact ok87
  · cases h; exact ok88
  · cases h; exact ok89
  · cases h; exact ok91
  · cases h; exact ok92
  · cases h; exact ok94
  · cases h; exact ok95
  · cases h; exact ok96
  · cases h; exact ok97
  · cases h; exact ok99
  · cases h; exact ok100
  · cases h; exact ok101
  · cases h; exact ok103
  · cases h; exact ok105
  · cases h; exact ok106
  · cases h; exact ok108
  · cases h; exact ok109
  · cases h; exact ok110
  · cases h; exact ok111
  · cases h; exact ok112
  · cases h; exact ok114
  · cases h; exact ok115
  · cases h; exact ok116
  · cases h; exact ok117
  · cases h; exact ok120
  · cases h; exact ok123
  · cases h; exact ok124
  · cases h; exact ok127
  · cases h; exact ok128
  · cases h; exact ok134
  · cases h
theorem T_1 : T 1 = some ty1 := rfl
theorem T_2 : T 2 = some ty2 := rfl
theorem T_3 : T 3 = some ty3 := rfl
theorem T_4 : T 4 = some ty4 := rfl
theorem T_5 : T 5 = some ty5 := rfl
theorem T_9 : T 9 = some ty9 := rfl
theorem T_12 : T 12 = some ty12 := rfl
theorem T_19 : T 19 = some ty19 := rfl
theorem T_20 : T 20 = some ty20 := rfl
theorem T_21 : T 21 = some ty21 := rfl
theorem T_23 : T 23 = some ty23 := rfl
theorem T_24 : T 24 = some ty24 := rfl
theorem T_25 : T 25 = some ty25 := rfl
theorem T_26 : T 26 = some ty26 := rfl
theorem T_27 : T 27 = some ty27 := rfl
theorem T_28 : T 28 = some ty28 := rfl
theorem T_30 : T 30 = some ty30 := rfl
theorem T_31 : T 31 = some ty31 := rfl
theorem T_33 : T 33 = some ty33 := rfl
theorem T_35 : T 35 = some ty35 := rfl
theorem T_36 : T 36 = some ty36 := rfl
theorem T_37 : T 37 = some ty37 := rfl
theorem T_38 : T 38 = some ty38 := rfl
theorem T_40 : T 40 = some ty40 := rfl
theorem T_41 : T 41 = some ty41 := rfl
theorem T_43 : T 43 = some ty43 := rfl
theorem T_44 : T 44 = some ty44 := rfl
theorem T_45 : T 45 = some ty45 := rfl
theorem T_46 : T 46 = some ty46 := rfl
theorem T_47 : T 47 = some ty47 := rfl
theorem T_49 : T 49 = some ty49 := rfl
theorem T_50 : T 50 = some ty50 := rfl
theorem T_51 : T 51 = some ty51 := rfl
theorem T_52 : T 52 = some ty52 := rfl
theorem T_53 : T 53 = some ty53 := rfl
theorem T_54 : T 54 = some ty54 := rfl
theorem T_56 : T 56 = some ty56 := rfl
theorem T_57 : T 57 = some ty57 := rfl
theorem T_58 : T 58 = some ty58 := rfl
theorem T_59 : T 59 = some ty59 := rfl
theorem T_60 : T 60 = some ty60 := rfl
theorem T_61 : T 61 = some ty61 := rfl
theorem T_62 : T 62 = some ty62 := rfl
theorem T_63 : T 63 = some ty63 := rfl
theorem T_64 : T 64 = some ty64 := rfl
theorem T_65 : T 65 = some ty65 := rfl
theorem T_67 : T 67 = some ty67 := rfl
theorem T_68 : T 68 = some ty68 := rfl
theorem T_69 : T 69 = some ty69 := rfl
theorem T_71 : T 71 = some ty71 := rfl
theorem T_72 : T 72 = some ty72 := rfl
theorem T_73 : T 73 = some ty73 := rfl
theorem T_74 : T 74 = some ty74 := rfl
theorem T_75 : T 75 = some ty75 := rfl
theorem T_76 : T 76 = some ty76 := rfl
theorem T_78 : T 78 = some ty78 := rfl
theorem T_79 : T 79 = some ty79 := rfl
theorem T_80 : T 80 = some ty80 := rfl
theorem T_81 : T 81 = some ty81 := rfl
theorem T_83 : T 83 = some ty83 := rfl
theorem T_84 : T 84 = some ty84 := rfl
theorem T_85 : T 85 = some ty85 := rfl
theorem T_86 : T 86 = some ty86 := rfl
theorem T_87 : T 87 = some ty87 := rfl
theorem T_88 : T 88 = some ty88 := rfl
theorem T_89 : T 89 = some ty89 := rfl
theorem T_91 : T 91 = some ty91 := rfl
theorem T_92 : T 92 = some ty92 := rfl
theorem T_94 : T 94 = some ty94 := rfl
theorem T_95 : T 95 = some ty95 := rfl
theorem T_96 : T 96 = some ty96 := rfl
theorem T_97 : T 97 = some ty97 := rfl
theorem T_99 : T 99 = some ty99 := rfl
theorem T_100 : T 100 = some ty100 := rfl
theorem T_101 : T 101 = some ty101 := rfl
theorem T_103 : T 103 = some ty103 := rfl
theorem T_105 : T 105 = some ty105 := rfl
theorem T_106 : T 106 = some ty106 := rfl
theorem T_108 : T 108 = some ty108 := rfl
theorem T_109 : T 109 = some ty109 := rfl
theorem T_110 : T 110 = some ty110 := rfl
theorem T_111 : T 111 = some ty111 := rfl
theorem T_112 : T 112 = some ty112 := rfl
theorem T_114 : T 114 = some ty114 := rfl
theorem T_115 : T 115 = some ty115 := rfl
theorem T_116 : T 116 = some ty116 := rfl
theorem T_117 : T 117 = some ty117 := rfl
theorem T_120 : T 120 = some ty120 := rfl
theorem T_123 : T 123 = some ty123 := rfl
theorem T_124 : T 124 = some ty124 := rfl
theorem T_127 : T 127 = some ty127 := rfl
theorem T_128 : T 128 = some ty128 := rfl
theorem T_134 : T 134 = some ty134 := rfl
theorem mixed : Try.prog.follows .mixedOrders = true := by kernel_rfl
/-- All that is a contract. -/
def Ev : Env := fun f a h r h' => Entered Try.prog f ∧ Spec Try.prog f a h r h'
theorem evOk : EnvOk Try.prog Ev := fun _ _ _ _ _ h => h
end Go.Proofs.Yteoddaeipckgcaa.Fx
