/- What is used of the seat's types. -/
import Derived.Test.YtlnilonlaedafaaFx18
import Derived.Test.YtlnilonlaedafaaProg
import Derived.KernelRfl
namespace Go.Proofs.Ytlnilonlaedafaa.Fx
open Go Go.RowKit
set_option linter.unusedSimpArgs false
set_option maxRecDepth 100000
def ty1 : TI := { k := .func, size := 1, bytes := 8, zero := [.t .nilf], cmp := false }
theorem ok1 : TIOk Try.prog 1 ty1 where
  info := ⟨Try.t1, .nilFunc, by kernel_rfl, by kernel_rfl, by kernel_rfl, by kernel_rfl, by first | trivial | (simp [All2, zeroR, ty1, Value.cells]; done), fun h => by cases h⟩
  zlen := rfl
  kind := ⟨_, Try.underlying1, ⟨_, _, _, rfl⟩⟩
  flds := fun fields h => by rw [Try.underlying1] at h; cases h
  elt := fun n e h => by rw [Try.underlying1] at h; cases h
  cmp := fun h => by cases h
  zone := fun info cs h1 h2 => by rw [show Try.prog.info? 1 = some Try.t1 from by kernel_rfl] at h1; obtain rfl := Option.some.inj h1; rw [show Try.t1.zero = some (.nilFunc) from by kernel_rfl] at h2; cases h2
  meth := fun p hp => by cases hp
def ty2 : TI := { k := .int .i64, size := 1, bytes := 8, zero := [.t (.int .i64 0)], cmp := false }
theorem ok2 : TIOk Try.prog 2 ty2 where
  info := ⟨Try.t2, .int .i64 0, by kernel_rfl, by kernel_rfl, by kernel_rfl, by kernel_rfl, by first | trivial | (simp [All2, zeroR, ty2, Value.cells]; done), fun h => by cases h⟩
  zlen := rfl
  kind := ⟨_, Try.underlying2, rfl⟩
  flds := fun fields h => by rw [Try.underlying2] at h; cases h
  elt := fun n e h => by rw [Try.underlying2] at h; cases h
  cmp := fun h => by cases h
  zone := fun info cs h1 h2 => by rw [show Try.prog.info? 2 = some Try.t2 from by kernel_rfl] at h1; obtain rfl := Option.some.inj h1; rw [show Try.t2.zero = some (.int .i64 0) from by kernel_rfl] at h2; cases h2
  meth := fun p hp => by cases hp
def ty3 : TI := { k := .int .i64, size := 1, bytes := 8, zero := [.t (.int .i64 0)], cmp := false }
theorem ok3 : TIOk Try.prog 3 ty3 where
  info := ⟨Try.t3, .int .i64 0, by kernel_rfl, by kernel_rfl, by kernel_rfl, by kernel_rfl, by first | trivial | (simp [All2, zeroR, ty3, Value.cells]; done), fun h => by cases h⟩
  zlen := rfl
  kind := ⟨_, Try.underlying3, rfl⟩
  flds := fun fields h => by rw [Try.underlying3] at h; cases h
  elt := fun n e h => by rw [Try.underlying3] at h; cases h
  cmp := fun h => by cases h
  zone := fun info cs h1 h2 => by rw [show Try.prog.info? 3 = some Try.t3 from by kernel_rfl] at h1; obtain rfl := Option.some.inj h1; rw [show Try.t3.zero = some (.int .i64 0) from by kernel_rfl] at h2; cases h2
  meth := fun p hp => by cases hp
def ty4 : TI := { k := .bool, size := 1, bytes := 1, zero := [.t (.bool false)], cmp := false }
theorem ok4 : TIOk Try.prog 4 ty4 where
  info := ⟨Try.t4, .bool false, by kernel_rfl, by kernel_rfl, by kernel_rfl, by kernel_rfl, by first | trivial | (simp [All2, zeroR, ty4, Value.cells]; done), fun h => by cases h⟩
  zlen := rfl
  kind := ⟨_, Try.underlying4, rfl⟩
  flds := fun fields h => by rw [Try.underlying4] at h; cases h
  elt := fun n e h => by rw [Try.underlying4] at h; cases h
  cmp := fun h => by cases h
  zone := fun info cs h1 h2 => by rw [show Try.prog.info? 4 = some Try.t4 from by kernel_rfl] at h1; obtain rfl := Option.some.inj h1; rw [show Try.t4.zero = some (.bool false) from by kernel_rfl] at h2; cases h2
  meth := fun p hp => by cases hp
def ty5 : TI := { k := .int .u8, size := 1, bytes := 1, zero := [.t (.int .u8 0)], cmp := false }
theorem ok5 : TIOk Try.prog 5 ty5 where
  info := ⟨Try.t5, .int .u8 0, by kernel_rfl, by kernel_rfl, by kernel_rfl, by kernel_rfl, by first | trivial | (simp [All2, zeroR, ty5, Value.cells]; done), fun h => by cases h⟩
  zlen := rfl
  kind := ⟨_, Try.underlying5, rfl⟩
  flds := fun fields h => by rw [Try.underlying5] at h; cases h
  elt := fun n e h => by rw [Try.underlying5] at h; cases h
  cmp := fun h => by cases h
  zone := fun info cs h1 h2 => by rw [show Try.prog.info? 5 = some Try.t5 from by kernel_rfl] at h1; obtain rfl := Option.some.inj h1; rw [show Try.t5.zero = some (.int .u8 0) from by kernel_rfl] at h2; cases h2
  meth := fun p hp => by cases hp
def ty9 : TI := { k := .str, size := 1, bytes := 16, zero := [.t (.str "".toUTF8)], cmp := false }
theorem ok9 : TIOk Try.prog 9 ty9 where
  info := ⟨Try.t9, .string "".toUTF8, by kernel_rfl, by kernel_rfl, by kernel_rfl, by kernel_rfl, by first | trivial | (simp [All2, zeroR, ty9, Value.cells]; done), fun h => by cases h⟩
  zlen := rfl
  kind := ⟨_, Try.underlying9, rfl⟩
  flds := fun fields h => by rw [Try.underlying9] at h; cases h
  elt := fun n e h => by rw [Try.underlying9] at h; cases h
  cmp := fun h => by cases h
  zone := fun info cs h1 h2 => by rw [show Try.prog.info? 9 = some Try.t9 from by kernel_rfl] at h1; obtain rfl := Option.some.inj h1; rw [show Try.t9.zero = some (.string "".toUTF8) from by kernel_rfl] at h2; cases h2
  meth := fun p hp => by cases hp
def ty12 : TI := { k := .int .u64, size := 1, bytes := 8, zero := [.t (.int .u64 0)], cmp := false }
theorem ok12 : TIOk Try.prog 12 ty12 where
  info := ⟨Try.t12, .int .u64 0, by kernel_rfl, by kernel_rfl, by kernel_rfl, by kernel_rfl, by first | trivial | (simp [All2, zeroR, ty12, Value.cells]; done), fun h => by cases h⟩
  zlen := rfl
  kind := ⟨_, Try.underlying12, rfl⟩
  flds := fun fields h => by rw [Try.underlying12] at h; cases h
  elt := fun n e h => by rw [Try.underlying12] at h; cases h
  cmp := fun h => by cases h
  zone := fun info cs h1 h2 => by rw [show Try.prog.info? 12 = some Try.t12 from by kernel_rfl] at h1; obtain rfl := Option.some.inj h1; rw [show Try.t12.zero = some (.int .u64 0) from by kernel_rfl] at h2; cases h2
  meth := fun p hp => by cases hp
def ty19 : TI := { k := .struct [(17, 0)], size := 1, bytes := 8, zero := [.t .nilp], cmp := false }
theorem ok19 : TIOk Try.prog 19 ty19 where
  info := ⟨Try.t19, .agg #[.pointer none], by kernel_rfl, by kernel_rfl, by kernel_rfl, by kernel_rfl, by first | trivial | (simp [All2, zeroR, ty19, Value.cells]; done), fun _ => ⟨_, rfl⟩⟩
  zlen := rfl
  kind := ⟨_, Try.underlying19, ⟨_, rfl, rfl, by kernel_rfl⟩⟩
  flds := fun fields h => by rw [Try.underlying19] at h; cases h; kernel_rfl
  elt := fun n e h => by rw [Try.underlying19] at h; cases h
  cmp := fun h => by cases h
  zone := fun info cs h1 h2 => rfl
  meth := fun p hp => by cases hp
def ty20 : TI := { k := .iface true, size := 1, bytes := 16, zero := [.t .nili], cmp := false }
theorem ok20 : TIOk Try.prog 20 ty20 where
  info := ⟨Try.t20, .nilIface, by kernel_rfl, by kernel_rfl, by kernel_rfl, by kernel_rfl, by first | trivial | (simp [All2, zeroR, ty20, Value.cells]; done), fun h => by cases h⟩
  zlen := rfl
  kind := ⟨_, Try.underlying20, ⟨_, rfl, by kernel_rfl⟩⟩
  flds := fun fields h => by rw [Try.underlying20] at h; cases h
  elt := fun n e h => by rw [Try.underlying20] at h; cases h
  cmp := fun h => by cases h
  zone := fun info cs h1 h2 => by rw [show Try.prog.info? 20 = some Try.t20 from by kernel_rfl] at h1; obtain rfl := Option.some.inj h1; rw [show Try.t20.zero = some (.nilIface) from by kernel_rfl] at h2; cases h2
  meth := fun p hp => by cases hp
def ty21 : TI := { k := .int .i32, size := 1, bytes := 4, zero := [.t (.int .i32 0)], cmp := false }
theorem ok21 : TIOk Try.prog 21 ty21 where
  info := ⟨Try.t21, .int .i32 0, by kernel_rfl, by kernel_rfl, by kernel_rfl, by kernel_rfl, by first | trivial | (simp [All2, zeroR, ty21, Value.cells]; done), fun h => by cases h⟩
  zlen := rfl
  kind := ⟨_, Try.underlying21, rfl⟩
  flds := fun fields h => by rw [Try.underlying21] at h; cases h
  elt := fun n e h => by rw [Try.underlying21] at h; cases h
  cmp := fun h => by cases h
  zone := fun info cs h1 h2 => by rw [show Try.prog.info? 21 = some Try.t21 from by kernel_rfl] at h1; obtain rfl := Option.some.inj h1; rw [show Try.t21.zero = some (.int .i32 0) from by kernel_rfl] at h2; cases h2
  meth := fun p hp => by cases hp
def ty22 : TI := { k := .slice 23, size := 1, bytes := 24, zero := [.own 1 []], cmp := false }
theorem ok22 : TIOk Try.prog 22 ty22 where
  info := ⟨Try.t22, .slice none 0 0, by kernel_rfl, by kernel_rfl, by kernel_rfl, by kernel_rfl, by first | trivial | (simp [All2, zeroR, ty22, Value.cells]; done), fun h => by cases h⟩
  zlen := rfl
  kind := ⟨_, Try.underlying22, rfl⟩
  flds := fun fields h => by rw [Try.underlying22] at h; cases h
  elt := fun n e h => by rw [Try.underlying22] at h; cases h
  cmp := fun h => by cases h
  zone := fun info cs h1 h2 => by rw [show Try.prog.info? 22 = some Try.t22 from by kernel_rfl] at h1; obtain rfl := Option.some.inj h1; rw [show Try.t22.zero = some (.slice none 0 0) from by kernel_rfl] at h2; cases h2
  meth := fun p hp => by cases hp
def ty23 : TI := { k := .slice 3, size := 1, bytes := 24, zero := [.own 1 []], cmp := false }
theorem ok23 : TIOk Try.prog 23 ty23 where
  info := ⟨Try.t23, .slice none 0 0, by kernel_rfl, by kernel_rfl, by kernel_rfl, by kernel_rfl, by first | trivial | (simp [All2, zeroR, ty23, Value.cells]; done), fun h => by cases h⟩
  zlen := rfl
  kind := ⟨_, Try.underlying23, rfl⟩
  flds := fun fields h => by rw [Try.underlying23] at h; cases h
  elt := fun n e h => by rw [Try.underlying23] at h; cases h
  cmp := fun h => by cases h
  zone := fun info cs h1 h2 => by rw [show Try.prog.info? 23 = some Try.t23 from by kernel_rfl] at h1; obtain rfl := Option.some.inj h1; rw [show Try.t23.zero = some (.slice none 0 0) from by kernel_rfl] at h2; cases h2
  meth := fun p hp => by cases hp
def ty24 : TI := { k := .func, size := 1, bytes := 8, zero := [.t .nilf], cmp := false }
theorem ok24 : TIOk Try.prog 24 ty24 where
  info := ⟨Try.t24, .nilFunc, by kernel_rfl, by kernel_rfl, by kernel_rfl, by kernel_rfl, by first | trivial | (simp [All2, zeroR, ty24, Value.cells]; done), fun h => by cases h⟩
  zlen := rfl
  kind := ⟨_, Try.underlying24, ⟨_, _, _, rfl⟩⟩
  flds := fun fields h => by rw [Try.underlying24] at h; cases h
  elt := fun n e h => by rw [Try.underlying24] at h; cases h
  cmp := fun h => by cases h
  zone := fun info cs h1 h2 => by rw [show Try.prog.info? 24 = some Try.t24 from by kernel_rfl] at h1; obtain rfl := Option.some.inj h1; rw [show Try.t24.zero = some (.nilFunc) from by kernel_rfl] at h2; cases h2
  meth := fun p hp => by cases hp
def ty25 : TI := { k := .func, size := 1, bytes := 8, zero := [.t .nilf], cmp := false }
theorem ok25 : TIOk Try.prog 25 ty25 where
  info := ⟨Try.t25, .nilFunc, by kernel_rfl, by kernel_rfl, by kernel_rfl, by kernel_rfl, by first | trivial | (simp [All2, zeroR, ty25, Value.cells]; done), fun h => by cases h⟩
  zlen := rfl
  kind := ⟨_, Try.underlying25, ⟨_, _, _, rfl⟩⟩
  flds := fun fields h => by rw [Try.underlying25] at h; cases h
  elt := fun n e h => by rw [Try.underlying25] at h; cases h
  cmp := fun h => by cases h
  zone := fun info cs h1 h2 => by rw [show Try.prog.info? 25 = some Try.t25 from by kernel_rfl] at h1; obtain rfl := Option.some.inj h1; rw [show Try.t25.zero = some (.nilFunc) from by kernel_rfl] at h2; cases h2
  meth := fun p hp => by cases hp
def ty26 : TI := { k := .func, size := 1, bytes := 8, zero := [.t .nilf], cmp := false }
theorem ok26 : TIOk Try.prog 26 ty26 where
  info := ⟨Try.t26, .nilFunc, by kernel_rfl, by kernel_rfl, by kernel_rfl, by kernel_rfl, by first | trivial | (simp [All2, zeroR, ty26, Value.cells]; done), fun h => by cases h⟩
  zlen := rfl
  kind := ⟨_, Try.underlying26, ⟨_, _, _, rfl⟩⟩
  flds := fun fields h => by rw [Try.underlying26] at h; cases h
  elt := fun n e h => by rw [Try.underlying26] at h; cases h
  cmp := fun h => by cases h
  zone := fun info cs h1 h2 => by rw [show Try.prog.info? 26 = some Try.t26 from by kernel_rfl] at h1; obtain rfl := Option.some.inj h1; rw [show Try.t26.zero = some (.nilFunc) from by kernel_rfl] at h2; cases h2
  meth := fun p hp => by cases hp
def ty27 : TI := { k := .func, size := 1, bytes := 8, zero := [.t .nilf], cmp := false }
theorem ok27 : TIOk Try.prog 27 ty27 where
  info := ⟨Try.t27, .nilFunc, by kernel_rfl, by kernel_rfl, by kernel_rfl, by kernel_rfl, by first | trivial | (simp [All2, zeroR, ty27, Value.cells]; done), fun h => by cases h⟩
  zlen := rfl
  kind := ⟨_, Try.underlying27, ⟨_, _, _, rfl⟩⟩
  flds := fun fields h => by rw [Try.underlying27] at h; cases h
  elt := fun n e h => by rw [Try.underlying27] at h; cases h
  cmp := fun h => by cases h
  zone := fun info cs h1 h2 => by rw [show Try.prog.info? 27 = some Try.t27 from by kernel_rfl] at h1; obtain rfl := Option.some.inj h1; rw [show Try.t27.zero = some (.nilFunc) from by kernel_rfl] at h2; cases h2
  meth := fun p hp => by cases hp
def ty28 : TI := { k := .func, size := 1, bytes := 8, zero := [.t .nilf], cmp := false }
theorem ok28 : TIOk Try.prog 28 ty28 where
  info := ⟨Try.t28, .nilFunc, by kernel_rfl, by kernel_rfl, by kernel_rfl, by kernel_rfl, by first | trivial | (simp [All2, zeroR, ty28, Value.cells]; done), fun h => by cases h⟩
  zlen := rfl
  kind := ⟨_, Try.underlying28, ⟨_, _, _, rfl⟩⟩
  flds := fun fields h => by rw [Try.underlying28] at h; cases h
  elt := fun n e h => by rw [Try.underlying28] at h; cases h
  cmp := fun h => by cases h
  zone := fun info cs h1 h2 => by rw [show Try.prog.info? 28 = some Try.t28 from by kernel_rfl] at h1; obtain rfl := Option.some.inj h1; rw [show Try.t28.zero = some (.nilFunc) from by kernel_rfl] at h2; cases h2
  meth := fun p hp => by cases hp
def ty29 : TI := { k := .func, size := 1, bytes := 8, zero := [.t .nilf], cmp := false }
theorem ok29 : TIOk Try.prog 29 ty29 where
  info := ⟨Try.t29, .nilFunc, by kernel_rfl, by kernel_rfl, by kernel_rfl, by kernel_rfl, by first | trivial | (simp [All2, zeroR, ty29, Value.cells]; done), fun h => by cases h⟩
  zlen := rfl
  kind := ⟨_, Try.underlying29, ⟨_, _, _, rfl⟩⟩
  flds := fun fields h => by rw [Try.underlying29] at h; cases h
  elt := fun n e h => by rw [Try.underlying29] at h; cases h
  cmp := fun h => by cases h
  zone := fun info cs h1 h2 => by rw [show Try.prog.info? 29 = some Try.t29 from by kernel_rfl] at h1; obtain rfl := Option.some.inj h1; rw [show Try.t29.zero = some (.nilFunc) from by kernel_rfl] at h2; cases h2
  meth := fun p hp => by cases hp
def ty30 : TI := { k := .func, size := 1, bytes := 8, zero := [.t .nilf], cmp := false }
theorem ok30 : TIOk Try.prog 30 ty30 where
  info := ⟨Try.t30, .nilFunc, by kernel_rfl, by kernel_rfl, by kernel_rfl, by kernel_rfl, by first | trivial | (simp [All2, zeroR, ty30, Value.cells]; done), fun h => by cases h⟩
  zlen := rfl
  kind := ⟨_, Try.underlying30, ⟨_, _, _, rfl⟩⟩
  flds := fun fields h => by rw [Try.underlying30] at h; cases h
  elt := fun n e h => by rw [Try.underlying30] at h; cases h
  cmp := fun h => by cases h
  zone := fun info cs h1 h2 => by rw [show Try.prog.info? 30 = some Try.t30 from by kernel_rfl] at h1; obtain rfl := Option.some.inj h1; rw [show Try.t30.zero = some (.nilFunc) from by kernel_rfl] at h2; cases h2
  meth := fun p hp => by cases hp
def ty31 : TI := { k := .arr 2 3, size := 2, bytes := 16, zero := [.t (.int .i64 0), .t (.int .i64 0)], cmp := false }
theorem ok31 : TIOk Try.prog 31 ty31 where
  info := ⟨Try.t31, .agg #[.int .i64 0, .int .i64 0], by kernel_rfl, by kernel_rfl, by kernel_rfl, by kernel_rfl, by first | trivial | (simp [All2, zeroR, ty31, Value.cells]; done), fun _ => ⟨_, rfl⟩⟩
  zlen := rfl
  kind := ⟨_, Try.underlying31, rfl⟩
  flds := fun fields h => by rw [Try.underlying31] at h; cases h
  elt := fun n e h => by rw [Try.underlying31] at h; cases h; kernel_rfl
  cmp := fun h => by cases h
  zone := fun info cs h1 h2 => rfl
  meth := fun p hp => by cases hp
def ty32 : TI := { k := .int .u64, size := 1, bytes := 8, zero := [.t (.int .u64 0)], cmp := false }
theorem ok32 : TIOk Try.prog 32 ty32 where
  info := ⟨Try.t32, .int .u64 0, by kernel_rfl, by kernel_rfl, by kernel_rfl, by kernel_rfl, by first | trivial | (simp [All2, zeroR, ty32, Value.cells]; done), fun h => by cases h⟩
  zlen := rfl
  kind := ⟨_, Try.underlying32, rfl⟩
  flds := fun fields h => by rw [Try.underlying32] at h; cases h
  elt := fun n e h => by rw [Try.underlying32] at h; cases h
  cmp := fun h => by cases h
  zone := fun info cs h1 h2 => by rw [show Try.prog.info? 32 = some Try.t32 from by kernel_rfl] at h1; obtain rfl := Option.some.inj h1; rw [show Try.t32.zero = some (.int .u64 0) from by kernel_rfl] at h2; cases h2
  meth := fun p hp => by cases hp
def ty33 : TI := { k := .int .i64, size := 1, bytes := 8, zero := [.t (.int .i64 0)], cmp := false }
theorem ok33 : TIOk Try.prog 33 ty33 where
  info := ⟨Try.t33, .int .i64 0, by kernel_rfl, by kernel_rfl, by kernel_rfl, by kernel_rfl, by first | trivial | (simp [All2, zeroR, ty33, Value.cells]; done), fun h => by cases h⟩
  zlen := rfl
  kind := ⟨_, Try.underlying33, rfl⟩
  flds := fun fields h => by rw [Try.underlying33] at h; cases h
  elt := fun n e h => by rw [Try.underlying33] at h; cases h
  cmp := fun h => by cases h
  zone := fun info cs h1 h2 => by rw [show Try.prog.info? 33 = some Try.t33 from by kernel_rfl] at h1; obtain rfl := Option.some.inj h1; rw [show Try.t33.zero = some (.int .i64 0) from by kernel_rfl] at h2; cases h2
  meth := fun p hp => by cases hp
def ty35 : TI := { k := .func, size := 1, bytes := 8, zero := [.t .nilf], cmp := false }
theorem ok35 : TIOk Try.prog 35 ty35 where
  info := ⟨Try.t35, .nilFunc, by kernel_rfl, by kernel_rfl, by kernel_rfl, by kernel_rfl, by first | trivial | (simp [All2, zeroR, ty35, Value.cells]; done), fun h => by cases h⟩
  zlen := rfl
  kind := ⟨_, Try.underlying35, ⟨_, _, _, rfl⟩⟩
  flds := fun fields h => by rw [Try.underlying35] at h; cases h
  elt := fun n e h => by rw [Try.underlying35] at h; cases h
  cmp := fun h => by cases h
  zone := fun info cs h1 h2 => by rw [show Try.prog.info? 35 = some Try.t35 from by kernel_rfl] at h1; obtain rfl := Option.some.inj h1; rw [show Try.t35.zero = some (.nilFunc) from by kernel_rfl] at h2; cases h2
  meth := fun p hp => by cases hp
def ty37 : TI := { k := .func, size := 1, bytes := 8, zero := [.t .nilf], cmp := false }
theorem ok37 : TIOk Try.prog 37 ty37 where
  info := ⟨Try.t37, .nilFunc, by kernel_rfl, by kernel_rfl, by kernel_rfl, by kernel_rfl, by first | trivial | (simp [All2, zeroR, ty37, Value.cells]; done), fun h => by cases h⟩
  zlen := rfl
  kind := ⟨_, Try.underlying37, ⟨_, _, _, rfl⟩⟩
  flds := fun fields h => by rw [Try.underlying37] at h; cases h
  elt := fun n e h => by rw [Try.underlying37] at h; cases h
  cmp := fun h => by cases h
  zone := fun info cs h1 h2 => by rw [show Try.prog.info? 37 = some Try.t37 from by kernel_rfl] at h1; obtain rfl := Option.some.inj h1; rw [show Try.t37.zero = some (.nilFunc) from by kernel_rfl] at h2; cases h2
  meth := fun p hp => by cases hp
def ty38 : TI := { k := .func, size := 1, bytes := 8, zero := [.t .nilf], cmp := false }
theorem ok38 : TIOk Try.prog 38 ty38 where
  info := ⟨Try.t38, .nilFunc, by kernel_rfl, by kernel_rfl, by kernel_rfl, by kernel_rfl, by first | trivial | (simp [All2, zeroR, ty38, Value.cells]; done), fun h => by cases h⟩
  zlen := rfl
  kind := ⟨_, Try.underlying38, ⟨_, _, _, rfl⟩⟩
  flds := fun fields h => by rw [Try.underlying38] at h; cases h
  elt := fun n e h => by rw [Try.underlying38] at h; cases h
  cmp := fun h => by cases h
  zone := fun info cs h1 h2 => by rw [show Try.prog.info? 38 = some Try.t38 from by kernel_rfl] at h1; obtain rfl := Option.some.inj h1; rw [show Try.t38.zero = some (.nilFunc) from by kernel_rfl] at h2; cases h2
  meth := fun p hp => by cases hp
def ty39 : TI := { k := .func, size := 1, bytes := 8, zero := [.t .nilf], cmp := false }
theorem ok39 : TIOk Try.prog 39 ty39 where
  info := ⟨Try.t39, .nilFunc, by kernel_rfl, by kernel_rfl, by kernel_rfl, by kernel_rfl, by first | trivial | (simp [All2, zeroR, ty39, Value.cells]; done), fun h => by cases h⟩
  zlen := rfl
  kind := ⟨_, Try.underlying39, ⟨_, _, _, rfl⟩⟩
  flds := fun fields h => by rw [Try.underlying39] at h; cases h
  elt := fun n e h => by rw [Try.underlying39] at h; cases h
  cmp := fun h => by cases h
  zone := fun info cs h1 h2 => by rw [show Try.prog.info? 39 = some Try.t39 from by kernel_rfl] at h1; obtain rfl := Option.some.inj h1; rw [show Try.t39.zero = some (.nilFunc) from by kernel_rfl] at h2; cases h2
  meth := fun p hp => by cases hp
def ty40 : TI := { k := .func, size := 1, bytes := 8, zero := [.t .nilf], cmp := false }
theorem ok40 : TIOk Try.prog 40 ty40 where
  info := ⟨Try.t40, .nilFunc, by kernel_rfl, by kernel_rfl, by kernel_rfl, by kernel_rfl, by first | trivial | (simp [All2, zeroR, ty40, Value.cells]; done), fun h => by cases h⟩
  zlen := rfl
  kind := ⟨_, Try.underlying40, ⟨_, _, _, rfl⟩⟩
  flds := fun fields h => by rw [Try.underlying40] at h; cases h
  elt := fun n e h => by rw [Try.underlying40] at h; cases h
  cmp := fun h => by cases h
  zone := fun info cs h1 h2 => by rw [show Try.prog.info? 40 = some Try.t40 from by kernel_rfl] at h1; obtain rfl := Option.some.inj h1; rw [show Try.t40.zero = some (.nilFunc) from by kernel_rfl] at h2; cases h2
  meth := fun p hp => by cases hp
def ty41 : TI := { k := .func, size := 1, bytes := 8, zero := [.t .nilf], cmp := false }
theorem ok41 : TIOk Try.prog 41 ty41 where
  info := ⟨Try.t41, .nilFunc, by kernel_rfl, by kernel_rfl, by kernel_rfl, by kernel_rfl, by first | trivial | (simp [All2, zeroR, ty41, Value.cells]; done), fun h => by cases h⟩
  zlen := rfl
  kind := ⟨_, Try.underlying41, ⟨_, _, _, rfl⟩⟩
  flds := fun fields h => by rw [Try.underlying41] at h; cases h
  elt := fun n e h => by rw [Try.underlying41] at h; cases h
  cmp := fun h => by cases h
  zone := fun info cs h1 h2 => by rw [show Try.prog.info? 41 = some Try.t41 from by kernel_rfl] at h1; obtain rfl := Option.some.inj h1; rw [show Try.t41.zero = some (.nilFunc) from by kernel_rfl] at h2; cases h2
  meth := fun p hp => by cases hp
def ty42 : TI := { k := .func, size := 1, bytes := 8, zero := [.t .nilf], cmp := false }
theorem ok42 : TIOk Try.prog 42 ty42 where
  info := ⟨Try.t42, .nilFunc, by kernel_rfl, by kernel_rfl, by kernel_rfl, by kernel_rfl, by first | trivial | (simp [All2, zeroR, ty42, Value.cells]; done), fun h => by cases h⟩
  zlen := rfl
  kind := ⟨_, Try.underlying42, ⟨_, _, _, rfl⟩⟩
  flds := fun fields h => by rw [Try.underlying42] at h; cases h
  elt := fun n e h => by rw [Try.underlying42] at h; cases h
  cmp := fun h => by cases h
  zone := fun info cs h1 h2 => by rw [show Try.prog.info? 42 = some Try.t42 from by kernel_rfl] at h1; obtain rfl := Option.some.inj h1; rw [show Try.t42.zero = some (.nilFunc) from by kernel_rfl] at h2; cases h2
  meth := fun p hp => by cases hp
def ty43 : TI := { k := .slice 22, size := 1, bytes := 24, zero := [.own 1 []], cmp := false }
theorem ok43 : TIOk Try.prog 43 ty43 where
  info := ⟨Try.t43, .slice none 0 0, by kernel_rfl, by kernel_rfl, by kernel_rfl, by kernel_rfl, by first | trivial | (simp [All2, zeroR, ty43, Value.cells]; done), fun h => by cases h⟩
  zlen := rfl
  kind := ⟨_, Try.underlying43, rfl⟩
  flds := fun fields h => by rw [Try.underlying43] at h; cases h
  elt := fun n e h => by rw [Try.underlying43] at h; cases h
  cmp := fun h => by cases h
  zone := fun info cs h1 h2 => by rw [show Try.prog.info? 43 = some Try.t43 from by kernel_rfl] at h1; obtain rfl := Option.some.inj h1; rw [show Try.t43.zero = some (.slice none 0 0) from by kernel_rfl] at h2; cases h2
  meth := fun p hp => by cases hp
def ty45 : TI := { k := .struct [(43, 0)], size := 1, bytes := 24, zero := [.own 1 []], cmp := false }
theorem ok45 : TIOk Try.prog 45 ty45 where
  info := ⟨Try.t45, .agg #[.slice none 0 0], by kernel_rfl, by kernel_rfl, by kernel_rfl, by kernel_rfl, by first | trivial | (simp [All2, zeroR, ty45, Value.cells]; done), fun _ => ⟨_, rfl⟩⟩
  zlen := rfl
  kind := ⟨_, Try.underlying45, ⟨_, rfl, rfl, by kernel_rfl⟩⟩
  flds := fun fields h => by rw [Try.underlying45] at h; cases h; kernel_rfl
  elt := fun n e h => by rw [Try.underlying45] at h; cases h
  cmp := fun h => by cases h
  zone := fun info cs h1 h2 => rfl
  meth := fun p hp => by cases hp
def ty47 : TI := { k := .func, size := 1, bytes := 8, zero := [.t .nilf], cmp := false }
theorem ok47 : TIOk Try.prog 47 ty47 where
  info := ⟨Try.t47, .nilFunc, by kernel_rfl, by kernel_rfl, by kernel_rfl, by kernel_rfl, by first | trivial | (simp [All2, zeroR, ty47, Value.cells]; done), fun h => by cases h⟩
  zlen := rfl
  kind := ⟨_, Try.underlying47, ⟨_, _, _, rfl⟩⟩
  flds := fun fields h => by rw [Try.underlying47] at h; cases h
  elt := fun n e h => by rw [Try.underlying47] at h; cases h
  cmp := fun h => by cases h
  zone := fun info cs h1 h2 => by rw [show Try.prog.info? 47 = some Try.t47 from by kernel_rfl] at h1; obtain rfl := Option.some.inj h1; rw [show Try.t47.zero = some (.nilFunc) from by kernel_rfl] at h2; cases h2
  meth := fun p hp => by cases hp
def ty49 : TI := { k := .func, size := 1, bytes := 8, zero := [.t .nilf], cmp := false }
theorem ok49 : TIOk Try.prog 49 ty49 where
  info := ⟨Try.t49, .nilFunc, by kernel_rfl, by kernel_rfl, by kernel_rfl, by kernel_rfl, by first | trivial | (simp [All2, zeroR, ty49, Value.cells]; done), fun h => by cases h⟩
  zlen := rfl
  kind := ⟨_, Try.underlying49, ⟨_, _, _, rfl⟩⟩
  flds := fun fields h => by rw [Try.underlying49] at h; cases h
  elt := fun n e h => by rw [Try.underlying49] at h; cases h
  cmp := fun h => by cases h
  zone := fun info cs h1 h2 => by rw [show Try.prog.info? 49 = some Try.t49 from by kernel_rfl] at h1; obtain rfl := Option.some.inj h1; rw [show Try.t49.zero = some (.nilFunc) from by kernel_rfl] at h2; cases h2
  meth := fun p hp => by cases hp
def ty50 : TI := { k := .func, size := 1, bytes := 8, zero := [.t .nilf], cmp := false }
theorem ok50 : TIOk Try.prog 50 ty50 where
  info := ⟨Try.t50, .nilFunc, by kernel_rfl, by kernel_rfl, by kernel_rfl, by kernel_rfl, by first | trivial | (simp [All2, zeroR, ty50, Value.cells]; done), fun h => by cases h⟩
  zlen := rfl
  kind := ⟨_, Try.underlying50, ⟨_, _, _, rfl⟩⟩
  flds := fun fields h => by rw [Try.underlying50] at h; cases h
  elt := fun n e h => by rw [Try.underlying50] at h; cases h
  cmp := fun h => by cases h
  zone := fun info cs h1 h2 => by rw [show Try.prog.info? 50 = some Try.t50 from by kernel_rfl] at h1; obtain rfl := Option.some.inj h1; rw [show Try.t50.zero = some (.nilFunc) from by kernel_rfl] at h2; cases h2
  meth := fun p hp => by cases hp
def ty51 : TI := { k := .func, size := 1, bytes := 8, zero := [.t .nilf], cmp := false }
theorem ok51 : TIOk Try.prog 51 ty51 where
  info := ⟨Try.t51, .nilFunc, by kernel_rfl, by kernel_rfl, by kernel_rfl, by kernel_rfl, by first | trivial | (simp [All2, zeroR, ty51, Value.cells]; done), fun h => by cases h⟩
  zlen := rfl
  kind := ⟨_, Try.underlying51, ⟨_, _, _, rfl⟩⟩
  flds := fun fields h => by rw [Try.underlying51] at h; cases h
  elt := fun n e h => by rw [Try.underlying51] at h; cases h
  cmp := fun h => by cases h
  zone := fun info cs h1 h2 => by rw [show Try.prog.info? 51 = some Try.t51 from by kernel_rfl] at h1; obtain rfl := Option.some.inj h1; rw [show Try.t51.zero = some (.nilFunc) from by kernel_rfl] at h2; cases h2
  meth := fun p hp => by cases hp
def ty52 : TI := { k := .func, size := 1, bytes := 8, zero := [.t .nilf], cmp := false }
theorem ok52 : TIOk Try.prog 52 ty52 where
  info := ⟨Try.t52, .nilFunc, by kernel_rfl, by kernel_rfl, by kernel_rfl, by kernel_rfl, by first | trivial | (simp [All2, zeroR, ty52, Value.cells]; done), fun h => by cases h⟩
  zlen := rfl
  kind := ⟨_, Try.underlying52, ⟨_, _, _, rfl⟩⟩
  flds := fun fields h => by rw [Try.underlying52] at h; cases h
  elt := fun n e h => by rw [Try.underlying52] at h; cases h
  cmp := fun h => by cases h
  zone := fun info cs h1 h2 => by rw [show Try.prog.info? 52 = some Try.t52 from by kernel_rfl] at h1; obtain rfl := Option.some.inj h1; rw [show Try.t52.zero = some (.nilFunc) from by kernel_rfl] at h2; cases h2
  meth := fun p hp => by cases hp
def ty53 : TI := { k := .func, size := 1, bytes := 8, zero := [.t .nilf], cmp := false }
theorem ok53 : TIOk Try.prog 53 ty53 where
  info := ⟨Try.t53, .nilFunc, by kernel_rfl, by kernel_rfl, by kernel_rfl, by kernel_rfl, by first | trivial | (simp [All2, zeroR, ty53, Value.cells]; done), fun h => by cases h⟩
  zlen := rfl
  kind := ⟨_, Try.underlying53, ⟨_, _, _, rfl⟩⟩
  flds := fun fields h => by rw [Try.underlying53] at h; cases h
  elt := fun n e h => by rw [Try.underlying53] at h; cases h
  cmp := fun h => by cases h
  zone := fun info cs h1 h2 => by rw [show Try.prog.info? 53 = some Try.t53 from by kernel_rfl] at h1; obtain rfl := Option.some.inj h1; rw [show Try.t53.zero = some (.nilFunc) from by kernel_rfl] at h2; cases h2
  meth := fun p hp => by cases hp
def ty55 : TI := { k := .func, size := 1, bytes := 8, zero := [.t .nilf], cmp := false }
theorem ok55 : TIOk Try.prog 55 ty55 where
  info := ⟨Try.t55, .nilFunc, by kernel_rfl, by kernel_rfl, by kernel_rfl, by kernel_rfl, by first | trivial | (simp [All2, zeroR, ty55, Value.cells]; done), fun h => by cases h⟩
  zlen := rfl
  kind := ⟨_, Try.underlying55, ⟨_, _, _, rfl⟩⟩
  flds := fun fields h => by rw [Try.underlying55] at h; cases h
  elt := fun n e h => by rw [Try.underlying55] at h; cases h
  cmp := fun h => by cases h
  zone := fun info cs h1 h2 => by rw [show Try.prog.info? 55 = some Try.t55 from by kernel_rfl] at h1; obtain rfl := Option.some.inj h1; rw [show Try.t55.zero = some (.nilFunc) from by kernel_rfl] at h2; cases h2
  meth := fun p hp => by cases hp
def ty56 : TI := { k := .arr 3 3, size := 3, bytes := 24, zero := [.t (.int .i64 0), .t (.int .i64 0), .t (.int .i64 0)], cmp := false }
theorem ok56 : TIOk Try.prog 56 ty56 where
  info := ⟨Try.t56, .agg #[.int .i64 0, .int .i64 0, .int .i64 0], by kernel_rfl, by kernel_rfl, by kernel_rfl, by kernel_rfl, by first | trivial | (simp [All2, zeroR, ty56, Value.cells]; done), fun _ => ⟨_, rfl⟩⟩
  zlen := rfl
  kind := ⟨_, Try.underlying56, rfl⟩
  flds := fun fields h => by rw [Try.underlying56] at h; cases h
  elt := fun n e h => by rw [Try.underlying56] at h; cases h; kernel_rfl
  cmp := fun h => by cases h
  zone := fun info cs h1 h2 => rfl
  meth := fun p hp => by cases hp
def ty58 : TI := { k := .func, size := 1, bytes := 8, zero := [.t .nilf], cmp := false }
theorem ok58 : TIOk Try.prog 58 ty58 where
  info := ⟨Try.t58, .nilFunc, by kernel_rfl, by kernel_rfl, by kernel_rfl, by kernel_rfl, by first | trivial | (simp [All2, zeroR, ty58, Value.cells]; done), fun h => by cases h⟩
  zlen := rfl
  kind := ⟨_, Try.underlying58, ⟨_, _, _, rfl⟩⟩
  flds := fun fields h => by rw [Try.underlying58] at h; cases h
  elt := fun n e h => by rw [Try.underlying58] at h; cases h
  cmp := fun h => by cases h
  zone := fun info cs h1 h2 => by rw [show Try.prog.info? 58 = some Try.t58 from by kernel_rfl] at h1; obtain rfl := Option.some.inj h1; rw [show Try.t58.zero = some (.nilFunc) from by kernel_rfl] at h2; cases h2
  meth := fun p hp => by cases hp
def ty60 : TI := { k := .func, size := 1, bytes := 8, zero := [.t .nilf], cmp := false }
theorem ok60 : TIOk Try.prog 60 ty60 where
  info := ⟨Try.t60, .nilFunc, by kernel_rfl, by kernel_rfl, by kernel_rfl, by kernel_rfl, by first | trivial | (simp [All2, zeroR, ty60, Value.cells]; done), fun h => by cases h⟩
  zlen := rfl
  kind := ⟨_, Try.underlying60, ⟨_, _, _, rfl⟩⟩
  flds := fun fields h => by rw [Try.underlying60] at h; cases h
  elt := fun n e h => by rw [Try.underlying60] at h; cases h
  cmp := fun h => by cases h
  zone := fun info cs h1 h2 => by rw [show Try.prog.info? 60 = some Try.t60 from by kernel_rfl] at h1; obtain rfl := Option.some.inj h1; rw [show Try.t60.zero = some (.nilFunc) from by kernel_rfl] at h2; cases h2
  meth := fun p hp => by cases hp
def ty61 : TI := { k := .func, size := 1, bytes := 8, zero := [.t .nilf], cmp := false }
theorem ok61 : TIOk Try.prog 61 ty61 where
  info := ⟨Try.t61, .nilFunc, by kernel_rfl, by kernel_rfl, by kernel_rfl, by kernel_rfl, by first | trivial | (simp [All2, zeroR, ty61, Value.cells]; done), fun h => by cases h⟩
  zlen := rfl
  kind := ⟨_, Try.underlying61, ⟨_, _, _, rfl⟩⟩
  flds := fun fields h => by rw [Try.underlying61] at h; cases h
  elt := fun n e h => by rw [Try.underlying61] at h; cases h
  cmp := fun h => by cases h
  zone := fun info cs h1 h2 => by rw [show Try.prog.info? 61 = some Try.t61 from by kernel_rfl] at h1; obtain rfl := Option.some.inj h1; rw [show Try.t61.zero = some (.nilFunc) from by kernel_rfl] at h2; cases h2
  meth := fun p hp => by cases hp
def ty62 : TI := { k := .func, size := 1, bytes := 8, zero := [.t .nilf], cmp := false }
theorem ok62 : TIOk Try.prog 62 ty62 where
  info := ⟨Try.t62, .nilFunc, by kernel_rfl, by kernel_rfl, by kernel_rfl, by kernel_rfl, by first | trivial | (simp [All2, zeroR, ty62, Value.cells]; done), fun h => by cases h⟩
  zlen := rfl
  kind := ⟨_, Try.underlying62, ⟨_, _, _, rfl⟩⟩
  flds := fun fields h => by rw [Try.underlying62] at h; cases h
  elt := fun n e h => by rw [Try.underlying62] at h; cases h
  cmp := fun h => by cases h
  zone := fun info cs h1 h2 => by rw [show Try.prog.info? 62 = some Try.t62 from by kernel_rfl] at h1; obtain rfl := Option.some.inj h1; rw [show Try.t62.zero = some (.nilFunc) from by kernel_rfl] at h2; cases h2
  meth := fun p hp => by cases hp
def ty63 : TI := { k := .func, size := 1, bytes := 8, zero := [.t .nilf], cmp := false }
theorem ok63 : TIOk Try.prog 63 ty63 where
  info := ⟨Try.t63, .nilFunc, by kernel_rfl, by kernel_rfl, by kernel_rfl, by kernel_rfl, by first | trivial | (simp [All2, zeroR, ty63, Value.cells]; done), fun h => by cases h⟩
  zlen := rfl
  kind := ⟨_, Try.underlying63, ⟨_, _, _, rfl⟩⟩
  flds := fun fields h => by rw [Try.underlying63] at h; cases h
  elt := fun n e h => by rw [Try.underlying63] at h; cases h
  cmp := fun h => by cases h
  zone := fun info cs h1 h2 => by rw [show Try.prog.info? 63 = some Try.t63 from by kernel_rfl] at h1; obtain rfl := Option.some.inj h1; rw [show Try.t63.zero = some (.nilFunc) from by kernel_rfl] at h2; cases h2
  meth := fun p hp => by cases hp
def ty64 : TI := { k := .func, size := 1, bytes := 8, zero := [.t .nilf], cmp := false }
theorem ok64 : TIOk Try.prog 64 ty64 where
  info := ⟨Try.t64, .nilFunc, by kernel_rfl, by kernel_rfl, by kernel_rfl, by kernel_rfl, by first | trivial | (simp [All2, zeroR, ty64, Value.cells]; done), fun h => by cases h⟩
  zlen := rfl
  kind := ⟨_, Try.underlying64, ⟨_, _, _, rfl⟩⟩
  flds := fun fields h => by rw [Try.underlying64] at h; cases h
  elt := fun n e h => by rw [Try.underlying64] at h; cases h
  cmp := fun h => by cases h
  zone := fun info cs h1 h2 => by rw [show Try.prog.info? 64 = some Try.t64 from by kernel_rfl] at h1; obtain rfl := Option.some.inj h1; rw [show Try.t64.zero = some (.nilFunc) from by kernel_rfl] at h2; cases h2
  meth := fun p hp => by cases hp
def ty65 : TI := { k := .func, size := 1, bytes := 8, zero := [.t .nilf], cmp := false }
theorem ok65 : TIOk Try.prog 65 ty65 where
  info := ⟨Try.t65, .nilFunc, by kernel_rfl, by kernel_rfl, by kernel_rfl, by kernel_rfl, by first | trivial | (simp [All2, zeroR, ty65, Value.cells]; done), fun h => by cases h⟩
  zlen := rfl
  kind := ⟨_, Try.underlying65, ⟨_, _, _, rfl⟩⟩
  flds := fun fields h => by rw [Try.underlying65] at h; cases h
  elt := fun n e h => by rw [Try.underlying65] at h; cases h
  cmp := fun h => by cases h
  zone := fun info cs h1 h2 => by rw [show Try.prog.info? 65 = some Try.t65 from by kernel_rfl] at h1; obtain rfl := Option.some.inj h1; rw [show Try.t65.zero = some (.nilFunc) from by kernel_rfl] at h2; cases h2
  meth := fun p hp => by cases hp
def ty66 : TI := { k := .func, size := 1, bytes := 8, zero := [.t .nilf], cmp := false }
theorem ok66 : TIOk Try.prog 66 ty66 where
  info := ⟨Try.t66, .nilFunc, by kernel_rfl, by kernel_rfl, by kernel_rfl, by kernel_rfl, by first | trivial | (simp [All2, zeroR, ty66, Value.cells]; done), fun h => by cases h⟩
  zlen := rfl
  kind := ⟨_, Try.underlying66, ⟨_, _, _, rfl⟩⟩
  flds := fun fields h => by rw [Try.underlying66] at h; cases h
  elt := fun n e h => by rw [Try.underlying66] at h; cases h
  cmp := fun h => by cases h
  zone := fun info cs h1 h2 => by rw [show Try.prog.info? 66 = some Try.t66 from by kernel_rfl] at h1; obtain rfl := Option.some.inj h1; rw [show Try.t66.zero = some (.nilFunc) from by kernel_rfl] at h2; cases h2
  meth := fun p hp => by cases hp
def ty68 : TI := { k := .func, size := 1, bytes := 8, zero := [.t .nilf], cmp := false }
theorem ok68 : TIOk Try.prog 68 ty68 where
  info := ⟨Try.t68, .nilFunc, by kernel_rfl, by kernel_rfl, by kernel_rfl, by kernel_rfl, by first | trivial | (simp [All2, zeroR, ty68, Value.cells]; done), fun h => by cases h⟩
  zlen := rfl
  kind := ⟨_, Try.underlying68, ⟨_, _, _, rfl⟩⟩
  flds := fun fields h => by rw [Try.underlying68] at h; cases h
  elt := fun n e h => by rw [Try.underlying68] at h; cases h
  cmp := fun h => by cases h
  zone := fun info cs h1 h2 => by rw [show Try.prog.info? 68 = some Try.t68 from by kernel_rfl] at h1; obtain rfl := Option.some.inj h1; rw [show Try.t68.zero = some (.nilFunc) from by kernel_rfl] at h2; cases h2
  meth := fun p hp => by cases hp
def ty70 : TI := { k := .func, size := 1, bytes := 8, zero := [.t .nilf], cmp := false }
theorem ok70 : TIOk Try.prog 70 ty70 where
  info := ⟨Try.t70, .nilFunc, by kernel_rfl, by kernel_rfl, by kernel_rfl, by kernel_rfl, by first | trivial | (simp [All2, zeroR, ty70, Value.cells]; done), fun h => by cases h⟩
  zlen := rfl
  kind := ⟨_, Try.underlying70, ⟨_, _, _, rfl⟩⟩
  flds := fun fields h => by rw [Try.underlying70] at h; cases h
  elt := fun n e h => by rw [Try.underlying70] at h; cases h
  cmp := fun h => by cases h
  zone := fun info cs h1 h2 => by rw [show Try.prog.info? 70 = some Try.t70 from by kernel_rfl] at h1; obtain rfl := Option.some.inj h1; rw [show Try.t70.zero = some (.nilFunc) from by kernel_rfl] at h2; cases h2
  meth := fun p hp => by cases hp
def ty71 : TI := { k := .func, size := 1, bytes := 8, zero := [.t .nilf], cmp := false }
theorem ok71 : TIOk Try.prog 71 ty71 where
  info := ⟨Try.t71, .nilFunc, by kernel_rfl, by kernel_rfl, by kernel_rfl, by kernel_rfl, by first | trivial | (simp [All2, zeroR, ty71, Value.cells]; done), fun h => by cases h⟩
  zlen := rfl
  kind := ⟨_, Try.underlying71, ⟨_, _, _, rfl⟩⟩
  flds := fun fields h => by rw [Try.underlying71] at h; cases h
  elt := fun n e h => by rw [Try.underlying71] at h; cases h
  cmp := fun h => by cases h
  zone := fun info cs h1 h2 => by rw [show Try.prog.info? 71 = some Try.t71 from by kernel_rfl] at h1; obtain rfl := Option.some.inj h1; rw [show Try.t71.zero = some (.nilFunc) from by kernel_rfl] at h2; cases h2
  meth := fun p hp => by cases hp
def ty72 : TI := { k := .func, size := 1, bytes := 8, zero := [.t .nilf], cmp := false }
theorem ok72 : TIOk Try.prog 72 ty72 where
  info := ⟨Try.t72, .nilFunc, by kernel_rfl, by kernel_rfl, by kernel_rfl, by kernel_rfl, by first | trivial | (simp [All2, zeroR, ty72, Value.cells]; done), fun h => by cases h⟩
  zlen := rfl
  kind := ⟨_, Try.underlying72, ⟨_, _, _, rfl⟩⟩
  flds := fun fields h => by rw [Try.underlying72] at h; cases h
  elt := fun n e h => by rw [Try.underlying72] at h; cases h
  cmp := fun h => by cases h
  zone := fun info cs h1 h2 => by rw [show Try.prog.info? 72 = some Try.t72 from by kernel_rfl] at h1; obtain rfl := Option.some.inj h1; rw [show Try.t72.zero = some (.nilFunc) from by kernel_rfl] at h2; cases h2
  meth := fun p hp => by cases hp
def ty73 : TI := { k := .func, size := 1, bytes := 8, zero := [.t .nilf], cmp := false }
theorem ok73 : TIOk Try.prog 73 ty73 where
  info := ⟨Try.t73, .nilFunc, by kernel_rfl, by kernel_rfl, by kernel_rfl, by kernel_rfl, by first | trivial | (simp [All2, zeroR, ty73, Value.cells]; done), fun h => by cases h⟩
  zlen := rfl
  kind := ⟨_, Try.underlying73, ⟨_, _, _, rfl⟩⟩
  flds := fun fields h => by rw [Try.underlying73] at h; cases h
  elt := fun n e h => by rw [Try.underlying73] at h; cases h
  cmp := fun h => by cases h
  zone := fun info cs h1 h2 => by rw [show Try.prog.info? 73 = some Try.t73 from by kernel_rfl] at h1; obtain rfl := Option.some.inj h1; rw [show Try.t73.zero = some (.nilFunc) from by kernel_rfl] at h2; cases h2
  meth := fun p hp => by cases hp
def ty75 : TI := { k := .func, size := 1, bytes := 8, zero := [.t .nilf], cmp := false }
theorem ok75 : TIOk Try.prog 75 ty75 where
  info := ⟨Try.t75, .nilFunc, by kernel_rfl, by kernel_rfl, by kernel_rfl, by kernel_rfl, by first | trivial | (simp [All2, zeroR, ty75, Value.cells]; done), fun h => by cases h⟩
  zlen := rfl
  kind := ⟨_, Try.underlying75, ⟨_, _, _, rfl⟩⟩
  flds := fun fields h => by rw [Try.underlying75] at h; cases h
  elt := fun n e h => by rw [Try.underlying75] at h; cases h
  cmp := fun h => by cases h
  zone := fun info cs h1 h2 => by rw [show Try.prog.info? 75 = some Try.t75 from by kernel_rfl] at h1; obtain rfl := Option.some.inj h1; rw [show Try.t75.zero = some (.nilFunc) from by kernel_rfl] at h2; cases h2
  meth := fun p hp => by cases hp
def ty76 : TI := { k := .func, size := 1, bytes := 8, zero := [.t .nilf], cmp := false }
theorem ok76 : TIOk Try.prog 76 ty76 where
  info := ⟨Try.t76, .nilFunc, by kernel_rfl, by kernel_rfl, by kernel_rfl, by kernel_rfl, by first | trivial | (simp [All2, zeroR, ty76, Value.cells]; done), fun h => by cases h⟩
  zlen := rfl
  kind := ⟨_, Try.underlying76, ⟨_, _, _, rfl⟩⟩
  flds := fun fields h => by rw [Try.underlying76] at h; cases h
  elt := fun n e h => by rw [Try.underlying76] at h; cases h
  cmp := fun h => by cases h
  zone := fun info cs h1 h2 => by rw [show Try.prog.info? 76 = some Try.t76 from by kernel_rfl] at h1; obtain rfl := Option.some.inj h1; rw [show Try.t76.zero = some (.nilFunc) from by kernel_rfl] at h2; cases h2
  meth := fun p hp => by cases hp
def ty77 : TI := { k := .func, size := 1, bytes := 8, zero := [.t .nilf], cmp := false }
theorem ok77 : TIOk Try.prog 77 ty77 where
  info := ⟨Try.t77, .nilFunc, by kernel_rfl, by kernel_rfl, by kernel_rfl, by kernel_rfl, by first | trivial | (simp [All2, zeroR, ty77, Value.cells]; done), fun h => by cases h⟩
  zlen := rfl
  kind := ⟨_, Try.underlying77, ⟨_, _, _, rfl⟩⟩
  flds := fun fields h => by rw [Try.underlying77] at h; cases h
  elt := fun n e h => by rw [Try.underlying77] at h; cases h
  cmp := fun h => by cases h
  zone := fun info cs h1 h2 => by rw [show Try.prog.info? 77 = some Try.t77 from by kernel_rfl] at h1; obtain rfl := Option.some.inj h1; rw [show Try.t77.zero = some (.nilFunc) from by kernel_rfl] at h2; cases h2
  meth := fun p hp => by cases hp
def ty78 : TI := { k := .ptr 80, size := 1, bytes := 8, zero := [.t .nilp], cmp := false }
theorem ok78 : TIOk Try.prog 78 ty78 where
  info := ⟨Try.t78, .pointer none, by kernel_rfl, by kernel_rfl, by kernel_rfl, by kernel_rfl, by first | trivial | (simp [All2, zeroR, ty78, Value.cells]; done), fun h => by cases h⟩
  zlen := rfl
  kind := ⟨_, Try.underlying78, rfl⟩
  flds := fun fields h => by rw [Try.underlying78] at h; cases h
  elt := fun n e h => by rw [Try.underlying78] at h; cases h
  cmp := fun h => by cases h
  zone := fun info cs h1 h2 => by rw [show Try.prog.info? 78 = some Try.t78 from by kernel_rfl] at h1; obtain rfl := Option.some.inj h1; rw [show Try.t78.zero = some (.pointer none) from by kernel_rfl] at h2; cases h2
  meth := fun p hp => by cases hp
def ty80 : TI := { k := .struct [(22, 0), (3, 1), (3, 2), (3, 3), (32, 4)], size := 5, bytes := 56, zero := [.own 1 [], .t (.int .i64 0), .t (.int .i64 0), .t (.int .i64 0), .t (.int .u64 0)], cmp := false }
theorem ok80 : TIOk Try.prog 80 ty80 where
  info := ⟨Try.t80, .agg #[.slice none 0 0, .int .i64 0, .int .i64 0, .int .i64 0, .int .u64 0], by kernel_rfl, by kernel_rfl, by kernel_rfl, by kernel_rfl, by first | trivial | (simp [All2, zeroR, ty80, Value.cells]; done), fun _ => ⟨_, rfl⟩⟩
  zlen := rfl
  kind := ⟨_, Try.underlying80, ⟨_, rfl, rfl, by kernel_rfl⟩⟩
  flds := fun fields h => by rw [Try.underlying80] at h; cases h; kernel_rfl
  elt := fun n e h => by rw [Try.underlying80] at h; cases h
  cmp := fun h => by cases h
  zone := fun info cs h1 h2 => rfl
  meth := fun p hp => by cases hp
def ty81 : TI := { k := .func, size := 1, bytes := 8, zero := [.t .nilf], cmp := false }
theorem ok81 : TIOk Try.prog 81 ty81 where
  info := ⟨Try.t81, .nilFunc, by kernel_rfl, by kernel_rfl, by kernel_rfl, by kernel_rfl, by first | trivial | (simp [All2, zeroR, ty81, Value.cells]; done), fun h => by cases h⟩
  zlen := rfl
  kind := ⟨_, Try.underlying81, ⟨_, _, _, rfl⟩⟩
  flds := fun fields h => by rw [Try.underlying81] at h; cases h
  elt := fun n e h => by rw [Try.underlying81] at h; cases h
  cmp := fun h => by cases h
  zone := fun info cs h1 h2 => by rw [show Try.prog.info? 81 = some Try.t81 from by kernel_rfl] at h1; obtain rfl := Option.some.inj h1; rw [show Try.t81.zero = some (.nilFunc) from by kernel_rfl] at h2; cases h2
  meth := fun p hp => by cases hp
def ty82 : TI := { k := .func, size := 1, bytes := 8, zero := [.t .nilf], cmp := false }
theorem ok82 : TIOk Try.prog 82 ty82 where
  info := ⟨Try.t82, .nilFunc, by kernel_rfl, by kernel_rfl, by kernel_rfl, by kernel_rfl, by first | trivial | (simp [All2, zeroR, ty82, Value.cells]; done), fun h => by cases h⟩
  zlen := rfl
  kind := ⟨_, Try.underlying82, ⟨_, _, _, rfl⟩⟩
  flds := fun fields h => by rw [Try.underlying82] at h; cases h
  elt := fun n e h => by rw [Try.underlying82] at h; cases h
  cmp := fun h => by cases h
  zone := fun info cs h1 h2 => by rw [show Try.prog.info? 82 = some Try.t82 from by kernel_rfl] at h1; obtain rfl := Option.some.inj h1; rw [show Try.t82.zero = some (.nilFunc) from by kernel_rfl] at h2; cases h2
  meth := fun p hp => by cases hp
def ty83 : TI := { k := .func, size := 1, bytes := 8, zero := [.t .nilf], cmp := false }
theorem ok83 : TIOk Try.prog 83 ty83 where
  info := ⟨Try.t83, .nilFunc, by kernel_rfl, by kernel_rfl, by kernel_rfl, by kernel_rfl, by first | trivial | (simp [All2, zeroR, ty83, Value.cells]; done), fun h => by cases h⟩
  zlen := rfl
  kind := ⟨_, Try.underlying83, ⟨_, _, _, rfl⟩⟩
  flds := fun fields h => by rw [Try.underlying83] at h; cases h
  elt := fun n e h => by rw [Try.underlying83] at h; cases h
  cmp := fun h => by cases h
  zone := fun info cs h1 h2 => by rw [show Try.prog.info? 83 = some Try.t83 from by kernel_rfl] at h1; obtain rfl := Option.some.inj h1; rw [show Try.t83.zero = some (.nilFunc) from by kernel_rfl] at h2; cases h2
  meth := fun p hp => by cases hp
def ty84 : TI := { k := .func, size := 1, bytes := 8, zero := [.t .nilf], cmp := false }
theorem ok84 : TIOk Try.prog 84 ty84 where
  info := ⟨Try.t84, .nilFunc, by kernel_rfl, by kernel_rfl, by kernel_rfl, by kernel_rfl, by first | trivial | (simp [All2, zeroR, ty84, Value.cells]; done), fun h => by cases h⟩
  zlen := rfl
  kind := ⟨_, Try.underlying84, ⟨_, _, _, rfl⟩⟩
  flds := fun fields h => by rw [Try.underlying84] at h; cases h
  elt := fun n e h => by rw [Try.underlying84] at h; cases h
  cmp := fun h => by cases h
  zone := fun info cs h1 h2 => by rw [show Try.prog.info? 84 = some Try.t84 from by kernel_rfl] at h1; obtain rfl := Option.some.inj h1; rw [show Try.t84.zero = some (.nilFunc) from by kernel_rfl] at h2; cases h2
  meth := fun p hp => by cases hp
def ty86 : TI := { k := .func, size := 1, bytes := 8, zero := [.t .nilf], cmp := false }
theorem ok86 : TIOk Try.prog 86 ty86 where
  info := ⟨Try.t86, .nilFunc, by kernel_rfl, by kernel_rfl, by kernel_rfl, by kernel_rfl, by first | trivial | (simp [All2, zeroR, ty86, Value.cells]; done), fun h => by cases h⟩
  zlen := rfl
  kind := ⟨_, Try.underlying86, ⟨_, _, _, rfl⟩⟩
  flds := fun fields h => by rw [Try.underlying86] at h; cases h
  elt := fun n e h => by rw [Try.underlying86] at h; cases h
  cmp := fun h => by cases h
  zone := fun info cs h1 h2 => by rw [show Try.prog.info? 86 = some Try.t86 from by kernel_rfl] at h1; obtain rfl := Option.some.inj h1; rw [show Try.t86.zero = some (.nilFunc) from by kernel_rfl] at h2; cases h2
  meth := fun p hp => by cases hp
def ty87 : TI := { k := .func, size := 1, bytes := 8, zero := [.t .nilf], cmp := false }
theorem ok87 : TIOk Try.prog 87 ty87 where
  info := ⟨Try.t87, .nilFunc, by kernel_rfl, by kernel_rfl, by kernel_rfl, by kernel_rfl, by first | trivial | (simp [All2, zeroR, ty87, Value.cells]; done), fun h => by cases h⟩
  zlen := rfl
  kind := ⟨_, Try.underlying87, ⟨_, _, _, rfl⟩⟩
  flds := fun fields h => by rw [Try.underlying87] at h; cases h
  elt := fun n e h => by rw [Try.underlying87] at h; cases h
  cmp := fun h => by cases h
  zone := fun info cs h1 h2 => by rw [show Try.prog.info? 87 = some Try.t87 from by kernel_rfl] at h1; obtain rfl := Option.some.inj h1; rw [show Try.t87.zero = some (.nilFunc) from by kernel_rfl] at h2; cases h2
  meth := fun p hp => by cases hp
def ty88 : TI := { k := .func, size := 1, bytes := 8, zero := [.t .nilf], cmp := false }
theorem ok88 : TIOk Try.prog 88 ty88 where
  info := ⟨Try.t88, .nilFunc, by kernel_rfl, by kernel_rfl, by kernel_rfl, by kernel_rfl, by first | trivial | (simp [All2, zeroR, ty88, Value.cells]; done), fun h => by cases h⟩
  zlen := rfl
  kind := ⟨_, Try.underlying88, ⟨_, _, _, rfl⟩⟩
  flds := fun fields h => by rw [Try.underlying88] at h; cases h
  elt := fun n e h => by rw [Try.underlying88] at h; cases h
  cmp := fun h => by cases h
  zone := fun info cs h1 h2 => by rw [show Try.prog.info? 88 = some Try.t88 from by kernel_rfl] at h1; obtain rfl := Option.some.inj h1; rw [show Try.t88.zero = some (.nilFunc) from by kernel_rfl] at h2; cases h2
  meth := fun p hp => by cases hp
def ty89 : TI := { k := .int .u64, size := 1, bytes := 8, zero := [.t (.int .u64 0)], cmp := false }
theorem ok89 : TIOk Try.prog 89 ty89 where
  info := ⟨Try.t89, .int .u64 0, by kernel_rfl, by kernel_rfl, by kernel_rfl, by kernel_rfl, by first | trivial | (simp [All2, zeroR, ty89, Value.cells]; done), fun h => by cases h⟩
  zlen := rfl
  kind := ⟨_, Try.underlying89, rfl⟩
  flds := fun fields h => by rw [Try.underlying89] at h; cases h
  elt := fun n e h => by rw [Try.underlying89] at h; cases h
  cmp := fun h => by cases h
  zone := fun info cs h1 h2 => by rw [show Try.prog.info? 89 = some Try.t89 from by kernel_rfl] at h1; obtain rfl := Option.some.inj h1; rw [show Try.t89.zero = some (.int .u64 0) from by kernel_rfl] at h2; cases h2
  meth := fun p hp => by cases hp
def ty90 : TI := { k := .func, size := 1, bytes := 8, zero := [.t .nilf], cmp := false }
theorem ok90 : TIOk Try.prog 90 ty90 where
  info := ⟨Try.t90, .nilFunc, by kernel_rfl, by kernel_rfl, by kernel_rfl, by kernel_rfl, by first | trivial | (simp [All2, zeroR, ty90, Value.cells]; done), fun h => by cases h⟩
  zlen := rfl
  kind := ⟨_, Try.underlying90, ⟨_, _, _, rfl⟩⟩
  flds := fun fields h => by rw [Try.underlying90] at h; cases h
  elt := fun n e h => by rw [Try.underlying90] at h; cases h
  cmp := fun h => by cases h
  zone := fun info cs h1 h2 => by rw [show Try.prog.info? 90 = some Try.t90 from by kernel_rfl] at h1; obtain rfl := Option.some.inj h1; rw [show Try.t90.zero = some (.nilFunc) from by kernel_rfl] at h2; cases h2
  meth := fun p hp => by cases hp
def ty91 : TI := { k := .func, size := 1, bytes := 8, zero := [.t .nilf], cmp := false }
theorem ok91 : TIOk Try.prog 91 ty91 where
  info := ⟨Try.t91, .nilFunc, by kernel_rfl, by kernel_rfl, by kernel_rfl, by kernel_rfl, by first | trivial | (simp [All2, zeroR, ty91, Value.cells]; done), fun h => by cases h⟩
  zlen := rfl
  kind := ⟨_, Try.underlying91, ⟨_, _, _, rfl⟩⟩
  flds := fun fields h => by rw [Try.underlying91] at h; cases h
  elt := fun n e h => by rw [Try.underlying91] at h; cases h
  cmp := fun h => by cases h
  zone := fun info cs h1 h2 => by rw [show Try.prog.info? 91 = some Try.t91 from by kernel_rfl] at h1; obtain rfl := Option.some.inj h1; rw [show Try.t91.zero = some (.nilFunc) from by kernel_rfl] at h2; cases h2
  meth := fun p hp => by cases hp
def ty94 : TI := { k := .arr 0 16, size := 0, bytes := 0, zero := [], cmp := false }
theorem ok94 : TIOk Try.prog 94 ty94 where
  info := ⟨Try.t94, .agg #[], by kernel_rfl, by kernel_rfl, by kernel_rfl, by kernel_rfl, by first | trivial | (simp [All2, zeroR, ty94, Value.cells]; done), fun _ => ⟨_, rfl⟩⟩
  zlen := rfl
  kind := ⟨_, Try.underlying94, rfl⟩
  flds := fun fields h => by rw [Try.underlying94] at h; cases h
  elt := fun n e h => by rw [Try.underlying94] at h; cases h; kernel_rfl
  cmp := fun h => by cases h
  zone := fun info cs h1 h2 => rfl
  meth := fun p hp => by cases hp
def ty97 : TI := { k := .func, size := 1, bytes := 8, zero := [.t .nilf], cmp := false }
theorem ok97 : TIOk Try.prog 97 ty97 where
  info := ⟨Try.t97, .nilFunc, by kernel_rfl, by kernel_rfl, by kernel_rfl, by kernel_rfl, by first | trivial | (simp [All2, zeroR, ty97, Value.cells]; done), fun h => by cases h⟩
  zlen := rfl
  kind := ⟨_, Try.underlying97, ⟨_, _, _, rfl⟩⟩
  flds := fun fields h => by rw [Try.underlying97] at h; cases h
  elt := fun n e h => by rw [Try.underlying97] at h; cases h
  cmp := fun h => by cases h
  zone := fun info cs h1 h2 => by rw [show Try.prog.info? 97 = some Try.t97 from by kernel_rfl] at h1; obtain rfl := Option.some.inj h1; rw [show Try.t97.zero = some (.nilFunc) from by kernel_rfl] at h2; cases h2
  meth := fun p hp => by cases hp
def ty98 : TI := { k := .int .u32, size := 1, bytes := 4, zero := [.t (.int .u32 0)], cmp := false }
theorem ok98 : TIOk Try.prog 98 ty98 where
  info := ⟨Try.t98, .int .u32 0, by kernel_rfl, by kernel_rfl, by kernel_rfl, by kernel_rfl, by first | trivial | (simp [All2, zeroR, ty98, Value.cells]; done), fun h => by cases h⟩
  zlen := rfl
  kind := ⟨_, Try.underlying98, rfl⟩
  flds := fun fields h => by rw [Try.underlying98] at h; cases h
  elt := fun n e h => by rw [Try.underlying98] at h; cases h
  cmp := fun h => by cases h
  zone := fun info cs h1 h2 => by rw [show Try.prog.info? 98 = some Try.t98 from by kernel_rfl] at h1; obtain rfl := Option.some.inj h1; rw [show Try.t98.zero = some (.int .u32 0) from by kernel_rfl] at h2; cases h2
  meth := fun p hp => by cases hp
def ty101 : TI := { k := .func, size := 1, bytes := 8, zero := [.t .nilf], cmp := false }
theorem ok101 : TIOk Try.prog 101 ty101 where
  info := ⟨Try.t101, .nilFunc, by kernel_rfl, by kernel_rfl, by kernel_rfl, by kernel_rfl, by first | trivial | (simp [All2, zeroR, ty101, Value.cells]; done), fun h => by cases h⟩
  zlen := rfl
  kind := ⟨_, Try.underlying101, ⟨_, _, _, rfl⟩⟩
  flds := fun fields h => by rw [Try.underlying101] at h; cases h
  elt := fun n e h => by rw [Try.underlying101] at h; cases h
  cmp := fun h => by cases h
  zone := fun info cs h1 h2 => by rw [show Try.prog.info? 101 = some Try.t101 from by kernel_rfl] at h1; obtain rfl := Option.some.inj h1; rw [show Try.t101.zero = some (.nilFunc) from by kernel_rfl] at h2; cases h2
  meth := fun p hp => by cases hp
def ty102 : TI := { k := .ptr 5, size := 1, bytes := 8, zero := [.t .nilp], cmp := false }
theorem ok102 : TIOk Try.prog 102 ty102 where
  info := ⟨Try.t102, .pointer none, by kernel_rfl, by kernel_rfl, by kernel_rfl, by kernel_rfl, by first | trivial | (simp [All2, zeroR, ty102, Value.cells]; done), fun h => by cases h⟩
  zlen := rfl
  kind := ⟨_, Try.underlying102, rfl⟩
  flds := fun fields h => by rw [Try.underlying102] at h; cases h
  elt := fun n e h => by rw [Try.underlying102] at h; cases h
  cmp := fun h => by cases h
  zone := fun info cs h1 h2 => by rw [show Try.prog.info? 102 = some Try.t102 from by kernel_rfl] at h1; obtain rfl := Option.some.inj h1; rw [show Try.t102.zero = some (.pointer none) from by kernel_rfl] at h2; cases h2
  meth := fun p hp => by cases hp
def T : TypeId → Option TI
  | 1 => some ty1
  | 2 => some ty2
  | 3 => some ty3
  | 4 => some ty4
  | 5 => some ty5
  | 9 => some ty9
  | 12 => some ty12
  | 19 => some ty19
  | 20 => some ty20
  | 21 => some ty21
  | 22 => some ty22
  | 23 => some ty23
  | 24 => some ty24
  | 25 => some ty25
  | 26 => some ty26
  | 27 => some ty27
  | 28 => some ty28
  | 29 => some ty29
  | 30 => some ty30
  | 31 => some ty31
  | 32 => some ty32
  | 33 => some ty33
  | 35 => some ty35
  | 37 => some ty37
  | 38 => some ty38
  | 39 => some ty39
  | 40 => some ty40
  | 41 => some ty41
  | 42 => some ty42
  | 43 => some ty43
  | 45 => some ty45
  | 47 => some ty47
  | 49 => some ty49
  | 50 => some ty50
  | 51 => some ty51
  | 52 => some ty52
  | 53 => some ty53
  | 55 => some ty55
  | 56 => some ty56
  | 58 => some ty58
  | 60 => some ty60
  | 61 => some ty61
  | 62 => some ty62
  | 63 => some ty63
  | 64 => some ty64
  | 65 => some ty65
  | 66 => some ty66
  | 68 => some ty68
  | 70 => some ty70
  | 71 => some ty71
  | 72 => some ty72
  | 73 => some ty73
  | 75 => some ty75
  | 76 => some ty76
  | 77 => some ty77
  | 78 => some ty78
  | 80 => some ty80
  | 81 => some ty81
  | 82 => some ty82
  | 83 => some ty83
  | 84 => some ty84
  | 86 => some ty86
  | 87 => some ty87
  | 88 => some ty88
  | 89 => some ty89
  | 90 => some ty90
  | 91 => some ty91
  | 94 => some ty94
  | 97 => some ty97
  | 98 => some ty98
  | 101 => some ty101
  | 102 => some ty102
  | _ => none
theorem tOk : TOk Try.prog T := by
  intro t ti h
  unfold T at h
  split at h
  · cases h; exact ok1
  · cases h; exact ok2
  · cases h; exact ok3
  · cases h; exact ok4
  · cases h; exact ok5
  · cases h; exact ok9
  · cases h; exact ok12
  · cases h; exact ok19
  · cases h; exact ok20
  · cases h; exact ok21
  · cases h; exact ok22
  · cases h; exact ok23
  · cases h; exact ok24
  · cases h; exact ok25
  · cases h; exact ok26
  · cases h; exact ok27
  · cases h; exact ok28
  · cases h; exact ok29
  · cases h; exact ok30
  · cases h; exact ok31
  · cases h; exact ok32
  · cases h; exact ok33
  · cases h; exact ok35
  · cases h; exact ok37
  · cases h; exact ok38
  · cases h; exact ok39
  · cases h; exact ok40
  · cases h; exact ok41
  · cases h; exact ok42
  · cases h; exact ok43
  · cases h; exact ok45
  · cases h; exact ok47
  · cases h; exact ok49
  · cases h; exact ok50
  · cases h; exact ok51
  · cases h; exact ok52
  · cases h; exact ok53
  · cases h; exact ok55
  · cases h; exact ok56
  · cases h; exact ok58
  · cases h; exact ok60
  · cases h; exact ok61
  · cases h; exact ok62
  · cases h; exact ok63
  · cases h; exact ok64
  · cases h; exact ok65
  · cases h; exact ok66
  · cases h; exact ok68
  · cases h; exact ok70
  · cases h; exact ok71
  · cases h; exact ok72
  · cases h; exact ok73
  · cases h; exact ok75
  · cases h; exact ok76
  · cases h; exact ok77
  · cases h; exact ok78
  · cases h; exact ok80
  · cases h; exact ok81
  · cases h; exact ok82
  · cases h; exact ok83
  · cases h; exact ok84
  · cases h; exact ok86
  · cases h; exact ok87
  · cases h; exact ok88
  · cases h; exact ok89
  · cases h; exact ok90
  · cases h; exact ok91
  · cases h; exact ok94
  · cases h; exact ok97
  · cases h; exact ok98
  · cases h; exact ok101
  · cases h; exact ok102
  · cases h
theorem T_1 : T 1 = some ty1 := rfl
theorem T_2 : T 2 = some ty2 := rfl
theorem T_3 : T 3 = some ty3 := rfl
theorem T_4 : T 4 = some ty4 := rfl
theorem T_5 : T 5 = some ty5 := rfl
theorem T_9 : T 9 = some ty9 := rfl
theorem T_12 : T 12 = some ty12 := rfl
theorem T_19 : T 19 = some ty19 := rfl
theorem T_20 : T 20 = some ty20 := rfl
theorem T_21 : T 21 = some ty21 := rfl
theorem T_22 : T 22 = some ty22 := rfl
theorem T_23 : T 23 = some ty23 := rfl
theorem T_24 : T 24 = some ty24 := rfl
theorem T_25 : T 25 = some ty25 := rfl
theorem T_26 : T 26 = some ty26 := rfl
theorem T_27 : T 27 = some ty27 := rfl
theorem T_28 : T 28 = some ty28 := rfl
theorem T_29 : T 29 = some ty29 := rfl
theorem T_30 : T 30 = some ty30 := rfl
theorem T_31 : T 31 = some ty31 := rfl
theorem T_32 : T 32 = some ty32 := rfl
theorem T_33 : T 33 = some ty33 := rfl
theorem T_35 : T 35 = some ty35 := rfl
theorem T_37 : T 37 = some ty37 := rfl
theorem T_38 : T 38 = some ty38 := rfl
theorem T_39 : T 39 = some ty39 := rfl
theorem T_40 : T 40 = some ty40 := rfl
theorem T_41 : T 41 = some ty41 := rfl
theorem T_42 : T 42 = some ty42 := rfl
theorem T_43 : T 43 = some ty43 := rfl
theorem T_45 : T 45 = some ty45 := rfl
theorem T_47 : T 47 = some ty47 := rfl
theorem T_49 : T 49 = some ty49 := rfl
theorem T_50 : T 50 = some ty50 := rfl
theorem T_51 : T 51 = some ty51 := rfl
theorem T_52 : T 52 = some ty52 := rfl
theorem T_53 : T 53 = some ty53 := rfl
theorem T_55 : T 55 = some ty55 := rfl
theorem T_56 : T 56 = some ty56 := rfl
theorem T_58 : T 58 = some ty58 := rfl
theorem T_60 : T 60 = some ty60 := rfl
theorem T_61 : T 61 = some ty61 := rfl
theorem T_62 : T 62 = some ty62 := rfl
theorem T_63 : T 63 = some ty63 := rfl
theorem T_64 : T 64 = some ty64 := rfl
theorem T_65 : T 65 = some ty65 := rfl
theorem T_66 : T 66 = some ty66 := rfl
theorem T_68 : T 68 = some ty68 := rfl
theorem T_70 : T 70 = some ty70 := rfl
theorem T_71 : T 71 = some ty71 := rfl
theorem T_72 : T 72 = some ty72 := rfl
theorem T_73 : T 73 = some ty73 := rfl
theorem T_75 : T 75 = some ty75 := rfl
theorem T_76 : T 76 = some ty76 := rfl
theorem T_77 : T 77 = some ty77 := rfl
theorem T_78 : T 78 = some ty78 := rfl
theorem T_80 : T 80 = some ty80 := rfl
theorem T_81 : T 81 = some ty81 := rfl
theorem T_82 : T 82 = some ty82 := rfl
theorem T_83 : T 83 = some ty83 := rfl
theorem T_84 : T 84 = some ty84 := rfl
theorem T_86 : T 86 = some ty86 := rfl
theorem T_87 : T 87 = some ty87 := rfl
theorem T_88 : T 88 = some ty88 := rfl
theorem T_89 : T 89 = some ty89 := rfl
theorem T_90 : T 90 = some ty90 := rfl
theorem T_91 : T 91 = some ty91 := rfl
theorem T_94 : T 94 = some ty94 := rfl
theorem T_97 : T 97 = some ty97 := rfl
theorem T_98 : T 98 = some ty98 := rfl
theorem T_101 : T 101 = some ty101 := rfl
theorem T_102 : T 102 = some ty102 := rfl
theorem mixed : Try.prog.follows .mixedOrders = true := by kernel_rfl
/-- All that is a contract. -/
def Ev : Env := fun f a h r h' => Entered Try.prog f ∧ Spec Try.prog f a h r h'
theorem evOk : EnvOk Try.prog Ev := fun _ _ _ _ _ h => h
end Go.Proofs.Ytlnilonlaedafaa.Fx
