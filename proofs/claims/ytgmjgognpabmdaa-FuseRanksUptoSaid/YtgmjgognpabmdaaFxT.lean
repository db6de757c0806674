/- What is used of the seat's types. -/
import Derived.Test.YtgmjgognpabmdaaFx18
import Derived.Test.YtgmjgognpabmdaaProg
import Derived.KernelRfl
namespace Go.Proofs.Ytgmjgognpabmdaa.Fx
open Go Go.RowKit
set_option linter.unusedSimpArgs false
set_option maxRecDepth 100000
def ty1 : TI := { k := .func, size := 1, bytes := 8, zero := [.t .nilf], cmp := false }
theorem ok1 : TIOk Try.prog 1 ty1 where
  info := ⟨Try.t1, .nilFunc, by kernel_rfl, by kernel_rfl, by kernel_rfl, by kernel_rfl, by first | trivial | (simp [All2, zeroR, ty1, Value.cells]; done), fun h => by cases h⟩
  zlen := rfl
  kind := ⟨_, Try.underlying1, ⟨_, _, _, rfl⟩⟩
  flds := fun fields h => by rw [Try.underlying1] at h; cases h
  elt := fun n e h => by rw [Try.underlying1] at h; cases h
  cmp := fun h => by cases h
  zone := fun info cs h1 h2 => by rw [show Try.prog.info? 1 = some Try.t1 from by kernel_rfl] at h1; obtain rfl := Option.some.inj h1; rw [show Try.t1.zero = some (.nilFunc) from by kernel_rfl] at h2; cases h2
  meth := fun p hp => by cases hp
def ty2 : TI := { k := .int .i64, size := 1, bytes := 8, zero := [.t (.int .i64 0)], cmp := false }
theorem ok2 : TIOk Try.prog 2 ty2 where
  info := ⟨Try.t2, .int .i64 0, by kernel_rfl, by kernel_rfl, by kernel_rfl, by kernel_rfl, by first | trivial | (simp [All2, zeroR, ty2, Value.cells]; done), fun h => by cases h⟩
  zlen := rfl
  kind := ⟨_, Try.underlying2, rfl⟩
  flds := fun fields h => by rw [Try.underlying2] at h; cases h
  elt := fun n e h => by rw [Try.underlying2] at h; cases h
  cmp := fun h => by cases h
  zone := fun info cs h1 h2 => by rw [show Try.prog.info? 2 = some Try.t2 from by kernel_rfl] at h1; obtain rfl := Option.some.inj h1; rw [show Try.t2.zero = some (.int .i64 0) from by kernel_rfl] at h2; cases h2
  meth := fun p hp => by cases hp
def ty3 : TI := { k := .int .i64, size := 1, bytes := 8, zero := [.t (.int .i64 0)], cmp := false }
theorem ok3 : TIOk Try.prog 3 ty3 where
  info := ⟨Try.t3, .int .i64 0, by kernel_rfl, by kernel_rfl, by kernel_rfl, by kernel_rfl, by first | trivial | (simp [All2, zeroR, ty3, Value.cells]; done), fun h => by cases h⟩
  zlen := rfl
  kind := ⟨_, Try.underlying3, rfl⟩
  flds := fun fields h => by rw [Try.underlying3] at h; cases h
  elt := fun n e h => by rw [Try.underlying3] at h; cases h
  cmp := fun h => by cases h
  zone := fun info cs h1 h2 => by rw [show Try.prog.info? 3 = some Try.t3 from by kernel_rfl] at h1; obtain rfl := Option.some.inj h1; rw [show Try.t3.zero = some (.int .i64 0) from by kernel_rfl] at h2; cases h2
  meth := fun p hp => by cases hp
def ty4 : TI := { k := .bool, size := 1, bytes := 1, zero := [.t (.bool false)], cmp := false }
theorem ok4 : TIOk Try.prog 4 ty4 where
  info := ⟨Try.t4, .bool false, by kernel_rfl, by kernel_rfl, by kernel_rfl, by kernel_rfl, by first | trivial | (simp [All2, zeroR, ty4, Value.cells]; done), fun h => by cases h⟩
  zlen := rfl
  kind := ⟨_, Try.underlying4, rfl⟩
  flds := fun fields h => by rw [Try.underlying4] at h; cases h
  elt := fun n e h => by rw [Try.underlying4] at h; cases h
  cmp := fun h => by cases h
  zone := fun info cs h1 h2 => by rw [show Try.prog.info? 4 = some Try.t4 from by kernel_rfl] at h1; obtain rfl := Option.some.inj h1; rw [show Try.t4.zero = some (.bool false) from by kernel_rfl] at h2; cases h2
  meth := fun p hp => by cases hp
def ty5 : TI := { k := .int .u8, size := 1, bytes := 1, zero := [.t (.int .u8 0)], cmp := false }
theorem ok5 : TIOk Try.prog 5 ty5 where
  info := ⟨Try.t5, .int .u8 0, by kernel_rfl, by kernel_rfl, by kernel_rfl, by kernel_rfl, by first | trivial | (simp [All2, zeroR, ty5, Value.cells]; done), fun h => by cases h⟩
  zlen := rfl
  kind := ⟨_, Try.underlying5, rfl⟩
  flds := fun fields h => by rw [Try.underlying5] at h; cases h
  elt := fun n e h => by rw [Try.underlying5] at h; cases h
  cmp := fun h => by cases h
  zone := fun info cs h1 h2 => by rw [show Try.prog.info? 5 = some Try.t5 from by kernel_rfl] at h1; obtain rfl := Option.some.inj h1; rw [show Try.t5.zero = some (.int .u8 0) from by kernel_rfl] at h2; cases h2
  meth := fun p hp => by cases hp
def ty9 : TI := { k := .str, size := 1, bytes := 16, zero := [.t (.str "".toUTF8)], cmp := false }
theorem ok9 : TIOk Try.prog 9 ty9 where
  info := ⟨Try.t9, .string "".toUTF8, by kernel_rfl, by kernel_rfl, by kernel_rfl, by kernel_rfl, by first | trivial | (simp [All2, zeroR, ty9, Value.cells]; done), fun h => by cases h⟩
  zlen := rfl
  kind := ⟨_, Try.underlying9, rfl⟩
  flds := fun fields h => by rw [Try.underlying9] at h; cases h
  elt := fun n e h => by rw [Try.underlying9] at h; cases h
  cmp := fun h => by cases h
  zone := fun info cs h1 h2 => by rw [show Try.prog.info? 9 = some Try.t9 from by kernel_rfl] at h1; obtain rfl := Option.some.inj h1; rw [show Try.t9.zero = some (.string "".toUTF8) from by kernel_rfl] at h2; cases h2
  meth := fun p hp => by cases hp
def ty12 : TI := { k := .int .u64, size := 1, bytes := 8, zero := [.t (.int .u64 0)], cmp := false }
theorem ok12 : TIOk Try.prog 12 ty12 where
  info := ⟨Try.t12, .int .u64 0, by kernel_rfl, by kernel_rfl, by kernel_rfl, by kernel_rfl, by first | trivial | (simp [All2, zeroR, ty12, Value.cells]; done), fun h => by cases h⟩
  zlen := rfl
  kind := ⟨_, Try.underlying12, rfl⟩
  flds := fun fields h => by rw [Try.underlying12] at h; cases h
  elt := fun n e h => by rw [Try.underlying12] at h; cases h
  cmp := fun h => by cases h
  zone := fun info cs h1 h2 => by rw [show Try.prog.info? 12 = some Try.t12 from by kernel_rfl] at h1; obtain rfl := Option.some.inj h1; rw [show Try.t12.zero = some (.int .u64 0) from by kernel_rfl] at h2; cases h2
  meth := fun p hp => by cases hp
def ty19 : TI := { k := .struct [(17, 0)], size := 1, bytes := 8, zero := [.t .nilp], cmp := false }
theorem ok19 : TIOk Try.prog 19 ty19 where
  info := ⟨Try.t19, .agg #[.pointer none], by kernel_rfl, by kernel_rfl, by kernel_rfl, by kernel_rfl, by first | trivial | (simp [All2, zeroR, ty19, Value.cells]; done), fun _ => ⟨_, rfl⟩⟩
  zlen := rfl
  kind := ⟨_, Try.underlying19, ⟨_, rfl, rfl, by kernel_rfl⟩⟩
  flds := fun fields h => by rw [Try.underlying19] at h; cases h; kernel_rfl
  elt := fun n e h => by rw [Try.underlying19] at h; cases h
  cmp := fun h => by cases h
  zone := fun info cs h1 h2 => rfl
  meth := fun p hp => by cases hp
def ty20 : TI := { k := .iface true, size := 1, bytes := 16, zero := [.t .nili], cmp := false }
theorem ok20 : TIOk Try.prog 20 ty20 where
  info := ⟨Try.t20, .nilIface, by kernel_rfl, by kernel_rfl, by kernel_rfl, by kernel_rfl, by first | trivial | (simp [All2, zeroR, ty20, Value.cells]; done), fun h => by cases h⟩
  zlen := rfl
  kind := ⟨_, Try.underlying20, ⟨_, rfl, by kernel_rfl⟩⟩
  flds := fun fields h => by rw [Try.underlying20] at h; cases h
  elt := fun n e h => by rw [Try.underlying20] at h; cases h
  cmp := fun h => by cases h
  zone := fun info cs h1 h2 => by rw [show Try.prog.info? 20 = some Try.t20 from by kernel_rfl] at h1; obtain rfl := Option.some.inj h1; rw [show Try.t20.zero = some (.nilIface) from by kernel_rfl] at h2; cases h2
  meth := fun p hp => by cases hp
def ty21 : TI := { k := .int .i32, size := 1, bytes := 4, zero := [.t (.int .i32 0)], cmp := false }
theorem ok21 : TIOk Try.prog 21 ty21 where
  info := ⟨Try.t21, .int .i32 0, by kernel_rfl, by kernel_rfl, by kernel_rfl, by kernel_rfl, by first | trivial | (simp [All2, zeroR, ty21, Value.cells]; done), fun h => by cases h⟩
  zlen := rfl
  kind := ⟨_, Try.underlying21, rfl⟩
  flds := fun fields h => by rw [Try.underlying21] at h; cases h
  elt := fun n e h => by rw [Try.underlying21] at h; cases h
  cmp := fun h => by cases h
  zone := fun info cs h1 h2 => by rw [show Try.prog.info? 21 = some Try.t21 from by kernel_rfl] at h1; obtain rfl := Option.some.inj h1; rw [show Try.t21.zero = some (.int .i32 0) from by kernel_rfl] at h2; cases h2
  meth := fun p hp => by cases hp
def ty23 : TI := { k := .struct [(3, 0), (3, 1)], size := 2, bytes := 16, zero := [.t (.int .i64 0), .t (.int .i64 0)], cmp := true }
theorem ok23 : TIOk Try.prog 23 ty23 where
  info := ⟨Try.t23, .agg #[.int .i64 0, .int .i64 0], by kernel_rfl, by kernel_rfl, by kernel_rfl, by kernel_rfl, by first | trivial | (simp [All2, zeroR, ty23, Value.cells]; done), fun _ => ⟨_, rfl⟩⟩
  zlen := rfl
  kind := ⟨_, Try.underlying23, ⟨_, rfl, rfl, by kernel_rfl⟩⟩
  flds := fun fields h => by rw [Try.underlying23] at h; cases h; kernel_rfl
  elt := fun n e h => by rw [Try.underlying23] at h; cases h
  cmp := fun h => ⟨by kernel_rfl, by kernel_rfl⟩
  zone := fun info cs h1 h2 => rfl
  meth := fun p hp => by cases hp
def ty24 : TI := { k := .arr 2 23, size := 4, bytes := 32, zero := [.t (.int .i64 0), .t (.int .i64 0), .t (.int .i64 0), .t (.int .i64 0)], cmp := false }
theorem ok24 : TIOk Try.prog 24 ty24 where
  info := ⟨Try.t24, .agg #[.int .i64 0, .int .i64 0, .int .i64 0, .int .i64 0], by kernel_rfl, by kernel_rfl, by kernel_rfl, by kernel_rfl, by first | trivial | (simp [All2, zeroR, ty24, Value.cells]; done), fun _ => ⟨_, rfl⟩⟩
  zlen := rfl
  kind := ⟨_, Try.underlying24, rfl⟩
  flds := fun fields h => by rw [Try.underlying24] at h; cases h
  elt := fun n e h => by rw [Try.underlying24] at h; cases h; kernel_rfl
  cmp := fun h => by cases h
  zone := fun info cs h1 h2 => rfl
  meth := fun p hp => by cases hp
def ty25 : TI := { k := .slice 23, size := 1, bytes := 24, zero := [.own 2 []], cmp := false }
theorem ok25 : TIOk Try.prog 25 ty25 where
  info := ⟨Try.t25, .slice none 0 0, by kernel_rfl, by kernel_rfl, by kernel_rfl, by kernel_rfl, by first | trivial | (simp [All2, zeroR, ty25, Value.cells]; done), fun h => by cases h⟩
  zlen := rfl
  kind := ⟨_, Try.underlying25, rfl⟩
  flds := fun fields h => by rw [Try.underlying25] at h; cases h
  elt := fun n e h => by rw [Try.underlying25] at h; cases h
  cmp := fun h => by cases h
  zone := fun info cs h1 h2 => by rw [show Try.prog.info? 25 = some Try.t25 from by kernel_rfl] at h1; obtain rfl := Option.some.inj h1; rw [show Try.t25.zero = some (.slice none 0 0) from by kernel_rfl] at h2; cases h2
  meth := fun p hp => by cases hp
def ty26 : TI := { k := .func, size := 1, bytes := 8, zero := [.t .nilf], cmp := false }
theorem ok26 : TIOk Try.prog 26 ty26 where
  info := ⟨Try.t26, .nilFunc, by kernel_rfl, by kernel_rfl, by kernel_rfl, by kernel_rfl, by first | trivial | (simp [All2, zeroR, ty26, Value.cells]; done), fun h => by cases h⟩
  zlen := rfl
  kind := ⟨_, Try.underlying26, ⟨_, _, _, rfl⟩⟩
  flds := fun fields h => by rw [Try.underlying26] at h; cases h
  elt := fun n e h => by rw [Try.underlying26] at h; cases h
  cmp := fun h => by cases h
  zone := fun info cs h1 h2 => by rw [show Try.prog.info? 26 = some Try.t26 from by kernel_rfl] at h1; obtain rfl := Option.some.inj h1; rw [show Try.t26.zero = some (.nilFunc) from by kernel_rfl] at h2; cases h2
  meth := fun p hp => by cases hp
def ty27 : TI := { k := .func, size := 1, bytes := 8, zero := [.t .nilf], cmp := false }
theorem ok27 : TIOk Try.prog 27 ty27 where
  info := ⟨Try.t27, .nilFunc, by kernel_rfl, by kernel_rfl, by kernel_rfl, by kernel_rfl, by first | trivial | (simp [All2, zeroR, ty27, Value.cells]; done), fun h => by cases h⟩
  zlen := rfl
  kind := ⟨_, Try.underlying27, ⟨_, _, _, rfl⟩⟩
  flds := fun fields h => by rw [Try.underlying27] at h; cases h
  elt := fun n e h => by rw [Try.underlying27] at h; cases h
  cmp := fun h => by cases h
  zone := fun info cs h1 h2 => by rw [show Try.prog.info? 27 = some Try.t27 from by kernel_rfl] at h1; obtain rfl := Option.some.inj h1; rw [show Try.t27.zero = some (.nilFunc) from by kernel_rfl] at h2; cases h2
  meth := fun p hp => by cases hp
def ty28 : TI := { k := .func, size := 1, bytes := 8, zero := [.t .nilf], cmp := false }
theorem ok28 : TIOk Try.prog 28 ty28 where
  info := ⟨Try.t28, .nilFunc, by kernel_rfl, by kernel_rfl, by kernel_rfl, by kernel_rfl, by first | trivial | (simp [All2, zeroR, ty28, Value.cells]; done), fun h => by cases h⟩
  zlen := rfl
  kind := ⟨_, Try.underlying28, ⟨_, _, _, rfl⟩⟩
  flds := fun fields h => by rw [Try.underlying28] at h; cases h
  elt := fun n e h => by rw [Try.underlying28] at h; cases h
  cmp := fun h => by cases h
  zone := fun info cs h1 h2 => by rw [show Try.prog.info? 28 = some Try.t28 from by kernel_rfl] at h1; obtain rfl := Option.some.inj h1; rw [show Try.t28.zero = some (.nilFunc) from by kernel_rfl] at h2; cases h2
  meth := fun p hp => by cases hp
def ty29 : TI := { k := .func, size := 1, bytes := 8, zero := [.t .nilf], cmp := false }
theorem ok29 : TIOk Try.prog 29 ty29 where
  info := ⟨Try.t29, .nilFunc, by kernel_rfl, by kernel_rfl, by kernel_rfl, by kernel_rfl, by first | trivial | (simp [All2, zeroR, ty29, Value.cells]; done), fun h => by cases h⟩
  zlen := rfl
  kind := ⟨_, Try.underlying29, ⟨_, _, _, rfl⟩⟩
  flds := fun fields h => by rw [Try.underlying29] at h; cases h
  elt := fun n e h => by rw [Try.underlying29] at h; cases h
  cmp := fun h => by cases h
  zone := fun info cs h1 h2 => by rw [show Try.prog.info? 29 = some Try.t29 from by kernel_rfl] at h1; obtain rfl := Option.some.inj h1; rw [show Try.t29.zero = some (.nilFunc) from by kernel_rfl] at h2; cases h2
  meth := fun p hp => by cases hp
def ty30 : TI := { k := .func, size := 1, bytes := 8, zero := [.t .nilf], cmp := false }
theorem ok30 : TIOk Try.prog 30 ty30 where
  info := ⟨Try.t30, .nilFunc, by kernel_rfl, by kernel_rfl, by kernel_rfl, by kernel_rfl, by first | trivial | (simp [All2, zeroR, ty30, Value.cells]; done), fun h => by cases h⟩
  zlen := rfl
  kind := ⟨_, Try.underlying30, ⟨_, _, _, rfl⟩⟩
  flds := fun fields h => by rw [Try.underlying30] at h; cases h
  elt := fun n e h => by rw [Try.underlying30] at h; cases h
  cmp := fun h => by cases h
  zone := fun info cs h1 h2 => by rw [show Try.prog.info? 30 = some Try.t30 from by kernel_rfl] at h1; obtain rfl := Option.some.inj h1; rw [show Try.t30.zero = some (.nilFunc) from by kernel_rfl] at h2; cases h2
  meth := fun p hp => by cases hp
def ty31 : TI := { k := .ptr 72, size := 1, bytes := 8, zero := [.t .nilp], cmp := false, meth := [("Len", 25)] }
theorem ok31 : TIOk Try.prog 31 ty31 where
  info := ⟨Try.t31, .pointer none, by kernel_rfl, by kernel_rfl, by kernel_rfl, by kernel_rfl, by first | trivial | (simp [All2, zeroR, ty31, Value.cells]; done), fun h => by cases h⟩
  zlen := rfl
  kind := ⟨_, Try.underlying31, rfl⟩
  flds := fun fields h => by rw [Try.underlying31] at h; cases h
  elt := fun n e h => by rw [Try.underlying31] at h; cases h
  cmp := fun h => by cases h
  zone := fun info cs h1 h2 => by rw [show Try.prog.info? 31 = some Try.t31 from by kernel_rfl] at h1; obtain rfl := Option.some.inj h1; rw [show Try.t31.zero = some (.pointer none) from by kernel_rfl] at h2; cases h2
  meth := by
    simp only [ty31, List.forall_mem_cons]
    exact ⟨fun _ _ => by kernel_rfl, fun p hp => by cases hp⟩
def ty32 : TI := { k := .func, size := 1, bytes := 8, zero := [.t .nilf], cmp := false }
theorem ok32 : TIOk Try.prog 32 ty32 where
  info := ⟨Try.t32, .nilFunc, by kernel_rfl, by kernel_rfl, by kernel_rfl, by kernel_rfl, by first | trivial | (simp [All2, zeroR, ty32, Value.cells]; done), fun h => by cases h⟩
  zlen := rfl
  kind := ⟨_, Try.underlying32, ⟨_, _, _, rfl⟩⟩
  flds := fun fields h => by rw [Try.underlying32] at h; cases h
  elt := fun n e h => by rw [Try.underlying32] at h; cases h
  cmp := fun h => by cases h
  zone := fun info cs h1 h2 => by rw [show Try.prog.info? 32 = some Try.t32 from by kernel_rfl] at h1; obtain rfl := Option.some.inj h1; rw [show Try.t32.zero = some (.nilFunc) from by kernel_rfl] at h2; cases h2
  meth := fun p hp => by cases hp
def ty33 : TI := { k := .func, size := 1, bytes := 8, zero := [.t .nilf], cmp := false }
theorem ok33 : TIOk Try.prog 33 ty33 where
  info := ⟨Try.t33, .nilFunc, by kernel_rfl, by kernel_rfl, by kernel_rfl, by kernel_rfl, by first | trivial | (simp [All2, zeroR, ty33, Value.cells]; done), fun h => by cases h⟩
  zlen := rfl
  kind := ⟨_, Try.underlying33, ⟨_, _, _, rfl⟩⟩
  flds := fun fields h => by rw [Try.underlying33] at h; cases h
  elt := fun n e h => by rw [Try.underlying33] at h; cases h
  cmp := fun h => by cases h
  zone := fun info cs h1 h2 => by rw [show Try.prog.info? 33 = some Try.t33 from by kernel_rfl] at h1; obtain rfl := Option.some.inj h1; rw [show Try.t33.zero = some (.nilFunc) from by kernel_rfl] at h2; cases h2
  meth := fun p hp => by cases hp
def ty34 : TI := { k := .func, size := 1, bytes := 8, zero := [.t .nilf], cmp := false }
theorem ok34 : TIOk Try.prog 34 ty34 where
  info := ⟨Try.t34, .nilFunc, by kernel_rfl, by kernel_rfl, by kernel_rfl, by kernel_rfl, by first | trivial | (simp [All2, zeroR, ty34, Value.cells]; done), fun h => by cases h⟩
  zlen := rfl
  kind := ⟨_, Try.underlying34, ⟨_, _, _, rfl⟩⟩
  flds := fun fields h => by rw [Try.underlying34] at h; cases h
  elt := fun n e h => by rw [Try.underlying34] at h; cases h
  cmp := fun h => by cases h
  zone := fun info cs h1 h2 => by rw [show Try.prog.info? 34 = some Try.t34 from by kernel_rfl] at h1; obtain rfl := Option.some.inj h1; rw [show Try.t34.zero = some (.nilFunc) from by kernel_rfl] at h2; cases h2
  meth := fun p hp => by cases hp
def ty35 : TI := { k := .func, size := 1, bytes := 8, zero := [.t .nilf], cmp := false }
theorem ok35 : TIOk Try.prog 35 ty35 where
  info := ⟨Try.t35, .nilFunc, by kernel_rfl, by kernel_rfl, by kernel_rfl, by kernel_rfl, by first | trivial | (simp [All2, zeroR, ty35, Value.cells]; done), fun h => by cases h⟩
  zlen := rfl
  kind := ⟨_, Try.underlying35, ⟨_, _, _, rfl⟩⟩
  flds := fun fields h => by rw [Try.underlying35] at h; cases h
  elt := fun n e h => by rw [Try.underlying35] at h; cases h
  cmp := fun h => by cases h
  zone := fun info cs h1 h2 => by rw [show Try.prog.info? 35 = some Try.t35 from by kernel_rfl] at h1; obtain rfl := Option.some.inj h1; rw [show Try.t35.zero = some (.nilFunc) from by kernel_rfl] at h2; cases h2
  meth := fun p hp => by cases hp
def ty36 : TI := { k := .func, size := 1, bytes := 8, zero := [.t .nilf], cmp := false }
theorem ok36 : TIOk Try.prog 36 ty36 where
  info := ⟨Try.t36, .nilFunc, by kernel_rfl, by kernel_rfl, by kernel_rfl, by kernel_rfl, by first | trivial | (simp [All2, zeroR, ty36, Value.cells]; done), fun h => by cases h⟩
  zlen := rfl
  kind := ⟨_, Try.underlying36, ⟨_, _, _, rfl⟩⟩
  flds := fun fields h => by rw [Try.underlying36] at h; cases h
  elt := fun n e h => by rw [Try.underlying36] at h; cases h
  cmp := fun h => by cases h
  zone := fun info cs h1 h2 => by rw [show Try.prog.info? 36 = some Try.t36 from by kernel_rfl] at h1; obtain rfl := Option.some.inj h1; rw [show Try.t36.zero = some (.nilFunc) from by kernel_rfl] at h2; cases h2
  meth := fun p hp => by cases hp
def ty37 : TI := { k := .arr 3 23, size := 6, bytes := 48, zero := [.t (.int .i64 0), .t (.int .i64 0), .t (.int .i64 0), .t (.int .i64 0), .t (.int .i64 0), .t (.int .i64 0)], cmp := false }
theorem ok37 : TIOk Try.prog 37 ty37 where
  info := ⟨Try.t37, .agg #[.int .i64 0, .int .i64 0, .int .i64 0, .int .i64 0, .int .i64 0, .int .i64 0], by kernel_rfl, by kernel_rfl, by kernel_rfl, by kernel_rfl, by first | trivial | (simp [All2, zeroR, ty37, Value.cells]; done), fun _ => ⟨_, rfl⟩⟩
  zlen := rfl
  kind := ⟨_, Try.underlying37, rfl⟩
  flds := fun fields h => by rw [Try.underlying37] at h; cases h
  elt := fun n e h => by rw [Try.underlying37] at h; cases h; kernel_rfl
  cmp := fun h => by cases h
  zone := fun info cs h1 h2 => rfl
  meth := fun p hp => by cases hp
def ty38 : TI := { k := .func, size := 1, bytes := 8, zero := [.t .nilf], cmp := false }
theorem ok38 : TIOk Try.prog 38 ty38 where
  info := ⟨Try.t38, .nilFunc, by kernel_rfl, by kernel_rfl, by kernel_rfl, by kernel_rfl, by first | trivial | (simp [All2, zeroR, ty38, Value.cells]; done), fun h => by cases h⟩
  zlen := rfl
  kind := ⟨_, Try.underlying38, ⟨_, _, _, rfl⟩⟩
  flds := fun fields h => by rw [Try.underlying38] at h; cases h
  elt := fun n e h => by rw [Try.underlying38] at h; cases h
  cmp := fun h => by cases h
  zone := fun info cs h1 h2 => by rw [show Try.prog.info? 38 = some Try.t38 from by kernel_rfl] at h1; obtain rfl := Option.some.inj h1; rw [show Try.t38.zero = some (.nilFunc) from by kernel_rfl] at h2; cases h2
  meth := fun p hp => by cases hp
def ty40 : TI := { k := .func, size := 1, bytes := 8, zero := [.t .nilf], cmp := false }
theorem ok40 : TIOk Try.prog 40 ty40 where
  info := ⟨Try.t40, .nilFunc, by kernel_rfl, by kernel_rfl, by kernel_rfl, by kernel_rfl, by first | trivial | (simp [All2, zeroR, ty40, Value.cells]; done), fun h => by cases h⟩
  zlen := rfl
  kind := ⟨_, Try.underlying40, ⟨_, _, _, rfl⟩⟩
  flds := fun fields h => by rw [Try.underlying40] at h; cases h
  elt := fun n e h => by rw [Try.underlying40] at h; cases h
  cmp := fun h => by cases h
  zone := fun info cs h1 h2 => by rw [show Try.prog.info? 40 = some Try.t40 from by kernel_rfl] at h1; obtain rfl := Option.some.inj h1; rw [show Try.t40.zero = some (.nilFunc) from by kernel_rfl] at h2; cases h2
  meth := fun p hp => by cases hp
def ty41 : TI := { k := .func, size := 1, bytes := 8, zero := [.t .nilf], cmp := false }
theorem ok41 : TIOk Try.prog 41 ty41 where
  info := ⟨Try.t41, .nilFunc, by kernel_rfl, by kernel_rfl, by kernel_rfl, by kernel_rfl, by first | trivial | (simp [All2, zeroR, ty41, Value.cells]; done), fun h => by cases h⟩
  zlen := rfl
  kind := ⟨_, Try.underlying41, ⟨_, _, _, rfl⟩⟩
  flds := fun fields h => by rw [Try.underlying41] at h; cases h
  elt := fun n e h => by rw [Try.underlying41] at h; cases h
  cmp := fun h => by cases h
  zone := fun info cs h1 h2 => by rw [show Try.prog.info? 41 = some Try.t41 from by kernel_rfl] at h1; obtain rfl := Option.some.inj h1; rw [show Try.t41.zero = some (.nilFunc) from by kernel_rfl] at h2; cases h2
  meth := fun p hp => by cases hp
def ty43 : TI := { k := .func, size := 1, bytes := 8, zero := [.t .nilf], cmp := false }
theorem ok43 : TIOk Try.prog 43 ty43 where
  info := ⟨Try.t43, .nilFunc, by kernel_rfl, by kernel_rfl, by kernel_rfl, by kernel_rfl, by first | trivial | (simp [All2, zeroR, ty43, Value.cells]; done), fun h => by cases h⟩
  zlen := rfl
  kind := ⟨_, Try.underlying43, ⟨_, _, _, rfl⟩⟩
  flds := fun fields h => by rw [Try.underlying43] at h; cases h
  elt := fun n e h => by rw [Try.underlying43] at h; cases h
  cmp := fun h => by cases h
  zone := fun info cs h1 h2 => by rw [show Try.prog.info? 43 = some Try.t43 from by kernel_rfl] at h1; obtain rfl := Option.some.inj h1; rw [show Try.t43.zero = some (.nilFunc) from by kernel_rfl] at h2; cases h2
  meth := fun p hp => by cases hp
def ty44 : TI := { k := .slice 25, size := 1, bytes := 24, zero := [.own 1 []], cmp := false }
theorem ok44 : TIOk Try.prog 44 ty44 where
  info := ⟨Try.t44, .slice none 0 0, by kernel_rfl, by kernel_rfl, by kernel_rfl, by kernel_rfl, by first | trivial | (simp [All2, zeroR, ty44, Value.cells]; done), fun h => by cases h⟩
  zlen := rfl
  kind := ⟨_, Try.underlying44, rfl⟩
  flds := fun fields h => by rw [Try.underlying44] at h; cases h
  elt := fun n e h => by rw [Try.underlying44] at h; cases h
  cmp := fun h => by cases h
  zone := fun info cs h1 h2 => by rw [show Try.prog.info? 44 = some Try.t44 from by kernel_rfl] at h1; obtain rfl := Option.some.inj h1; rw [show Try.t44.zero = some (.slice none 0 0) from by kernel_rfl] at h2; cases h2
  meth := fun p hp => by cases hp
def ty45 : TI := { k := .func, size := 1, bytes := 8, zero := [.t .nilf], cmp := false }
theorem ok45 : TIOk Try.prog 45 ty45 where
  info := ⟨Try.t45, .nilFunc, by kernel_rfl, by kernel_rfl, by kernel_rfl, by kernel_rfl, by first | trivial | (simp [All2, zeroR, ty45, Value.cells]; done), fun h => by cases h⟩
  zlen := rfl
  kind := ⟨_, Try.underlying45, ⟨_, _, _, rfl⟩⟩
  flds := fun fields h => by rw [Try.underlying45] at h; cases h
  elt := fun n e h => by rw [Try.underlying45] at h; cases h
  cmp := fun h => by cases h
  zone := fun info cs h1 h2 => by rw [show Try.prog.info? 45 = some Try.t45 from by kernel_rfl] at h1; obtain rfl := Option.some.inj h1; rw [show Try.t45.zero = some (.nilFunc) from by kernel_rfl] at h2; cases h2
  meth := fun p hp => by cases hp
def ty46 : TI := { k := .func, size := 1, bytes := 8, zero := [.t .nilf], cmp := false }
theorem ok46 : TIOk Try.prog 46 ty46 where
  info := ⟨Try.t46, .nilFunc, by kernel_rfl, by kernel_rfl, by kernel_rfl, by kernel_rfl, by first | trivial | (simp [All2, zeroR, ty46, Value.cells]; done), fun h => by cases h⟩
  zlen := rfl
  kind := ⟨_, Try.underlying46, ⟨_, _, _, rfl⟩⟩
  flds := fun fields h => by rw [Try.underlying46] at h; cases h
  elt := fun n e h => by rw [Try.underlying46] at h; cases h
  cmp := fun h => by cases h
  zone := fun info cs h1 h2 => by rw [show Try.prog.info? 46 = some Try.t46 from by kernel_rfl] at h1; obtain rfl := Option.some.inj h1; rw [show Try.t46.zero = some (.nilFunc) from by kernel_rfl] at h2; cases h2
  meth := fun p hp => by cases hp
def ty47 : TI := { k := .func, size := 1, bytes := 8, zero := [.t .nilf], cmp := false }
theorem ok47 : TIOk Try.prog 47 ty47 where
  info := ⟨Try.t47, .nilFunc, by kernel_rfl, by kernel_rfl, by kernel_rfl, by kernel_rfl, by first | trivial | (simp [All2, zeroR, ty47, Value.cells]; done), fun h => by cases h⟩
  zlen := rfl
  kind := ⟨_, Try.underlying47, ⟨_, _, _, rfl⟩⟩
  flds := fun fields h => by rw [Try.underlying47] at h; cases h
  elt := fun n e h => by rw [Try.underlying47] at h; cases h
  cmp := fun h => by cases h
  zone := fun info cs h1 h2 => by rw [show Try.prog.info? 47 = some Try.t47 from by kernel_rfl] at h1; obtain rfl := Option.some.inj h1; rw [show Try.t47.zero = some (.nilFunc) from by kernel_rfl] at h2; cases h2
  meth := fun p hp => by cases hp
def ty48 : TI := { k := .slice 3, size := 1, bytes := 24, zero := [.own 1 []], cmp := false }
theorem ok48 : TIOk Try.prog 48 ty48 where
  info := ⟨Try.t48, .slice none 0 0, by kernel_rfl, by kernel_rfl, by kernel_rfl, by kernel_rfl, by first | trivial | (simp [All2, zeroR, ty48, Value.cells]; done), fun h => by cases h⟩
  zlen := rfl
  kind := ⟨_, Try.underlying48, rfl⟩
  flds := fun fields h => by rw [Try.underlying48] at h; cases h
  elt := fun n e h => by rw [Try.underlying48] at h; cases h
  cmp := fun h => by cases h
  zone := fun info cs h1 h2 => by rw [show Try.prog.info? 48 = some Try.t48 from by kernel_rfl] at h1; obtain rfl := Option.some.inj h1; rw [show Try.t48.zero = some (.slice none 0 0) from by kernel_rfl] at h2; cases h2
  meth := fun p hp => by cases hp
def ty49 : TI := { k := .int .i64, size := 1, bytes := 8, zero := [.t (.int .i64 0)], cmp := false }
theorem ok49 : TIOk Try.prog 49 ty49 where
  info := ⟨Try.t49, .int .i64 0, by kernel_rfl, by kernel_rfl, by kernel_rfl, by kernel_rfl, by first | trivial | (simp [All2, zeroR, ty49, Value.cells]; done), fun h => by cases h⟩
  zlen := rfl
  kind := ⟨_, Try.underlying49, rfl⟩
  flds := fun fields h => by rw [Try.underlying49] at h; cases h
  elt := fun n e h => by rw [Try.underlying49] at h; cases h
  cmp := fun h => by cases h
  zone := fun info cs h1 h2 => by rw [show Try.prog.info? 49 = some Try.t49 from by kernel_rfl] at h1; obtain rfl := Option.some.inj h1; rw [show Try.t49.zero = some (.int .i64 0) from by kernel_rfl] at h2; cases h2
  meth := fun p hp => by cases hp
def ty51 : TI := { k := .func, size := 1, bytes := 8, zero := [.t .nilf], cmp := false }
theorem ok51 : TIOk Try.prog 51 ty51 where
  info := ⟨Try.t51, .nilFunc, by kernel_rfl, by kernel_rfl, by kernel_rfl, by kernel_rfl, by first | trivial | (simp [All2, zeroR, ty51, Value.cells]; done), fun h => by cases h⟩
  zlen := rfl
  kind := ⟨_, Try.underlying51, ⟨_, _, _, rfl⟩⟩
  flds := fun fields h => by rw [Try.underlying51] at h; cases h
  elt := fun n e h => by rw [Try.underlying51] at h; cases h
  cmp := fun h => by cases h
  zone := fun info cs h1 h2 => by rw [show Try.prog.info? 51 = some Try.t51 from by kernel_rfl] at h1; obtain rfl := Option.some.inj h1; rw [show Try.t51.zero = some (.nilFunc) from by kernel_rfl] at h2; cases h2
  meth := fun p hp => by cases hp
def ty53 : TI := { k := .func, size := 1, bytes := 8, zero := [.t .nilf], cmp := false }
theorem ok53 : TIOk Try.prog 53 ty53 where
  info := ⟨Try.t53, .nilFunc, by kernel_rfl, by kernel_rfl, by kernel_rfl, by kernel_rfl, by first | trivial | (simp [All2, zeroR, ty53, Value.cells]; done), fun h => by cases h⟩
  zlen := rfl
  kind := ⟨_, Try.underlying53, ⟨_, _, _, rfl⟩⟩
  flds := fun fields h => by rw [Try.underlying53] at h; cases h
  elt := fun n e h => by rw [Try.underlying53] at h; cases h
  cmp := fun h => by cases h
  zone := fun info cs h1 h2 => by rw [show Try.prog.info? 53 = some Try.t53 from by kernel_rfl] at h1; obtain rfl := Option.some.inj h1; rw [show Try.t53.zero = some (.nilFunc) from by kernel_rfl] at h2; cases h2
  meth := fun p hp => by cases hp
def ty54 : TI := { k := .func, size := 1, bytes := 8, zero := [.t .nilf], cmp := false }
theorem ok54 : TIOk Try.prog 54 ty54 where
  info := ⟨Try.t54, .nilFunc, by kernel_rfl, by kernel_rfl, by kernel_rfl, by kernel_rfl, by first | trivial | (simp [All2, zeroR, ty54, Value.cells]; done), fun h => by cases h⟩
  zlen := rfl
  kind := ⟨_, Try.underlying54, ⟨_, _, _, rfl⟩⟩
  flds := fun fields h => by rw [Try.underlying54] at h; cases h
  elt := fun n e h => by rw [Try.underlying54] at h; cases h
  cmp := fun h => by cases h
  zone := fun info cs h1 h2 => by rw [show Try.prog.info? 54 = some Try.t54 from by kernel_rfl] at h1; obtain rfl := Option.some.inj h1; rw [show Try.t54.zero = some (.nilFunc) from by kernel_rfl] at h2; cases h2
  meth := fun p hp => by cases hp
def ty55 : TI := { k := .func, size := 1, bytes := 8, zero := [.t .nilf], cmp := false }
theorem ok55 : TIOk Try.prog 55 ty55 where
  info := ⟨Try.t55, .nilFunc, by kernel_rfl, by kernel_rfl, by kernel_rfl, by kernel_rfl, by first | trivial | (simp [All2, zeroR, ty55, Value.cells]; done), fun h => by cases h⟩
  zlen := rfl
  kind := ⟨_, Try.underlying55, ⟨_, _, _, rfl⟩⟩
  flds := fun fields h => by rw [Try.underlying55] at h; cases h
  elt := fun n e h => by rw [Try.underlying55] at h; cases h
  cmp := fun h => by cases h
  zone := fun info cs h1 h2 => by rw [show Try.prog.info? 55 = some Try.t55 from by kernel_rfl] at h1; obtain rfl := Option.some.inj h1; rw [show Try.t55.zero = some (.nilFunc) from by kernel_rfl] at h2; cases h2
  meth := fun p hp => by cases hp
def ty56 : TI := { k := .func, size := 1, bytes := 8, zero := [.t .nilf], cmp := false }
theorem ok56 : TIOk Try.prog 56 ty56 where
  info := ⟨Try.t56, .nilFunc, by kernel_rfl, by kernel_rfl, by kernel_rfl, by kernel_rfl, by first | trivial | (simp [All2, zeroR, ty56, Value.cells]; done), fun h => by cases h⟩
  zlen := rfl
  kind := ⟨_, Try.underlying56, ⟨_, _, _, rfl⟩⟩
  flds := fun fields h => by rw [Try.underlying56] at h; cases h
  elt := fun n e h => by rw [Try.underlying56] at h; cases h
  cmp := fun h => by cases h
  zone := fun info cs h1 h2 => by rw [show Try.prog.info? 56 = some Try.t56 from by kernel_rfl] at h1; obtain rfl := Option.some.inj h1; rw [show Try.t56.zero = some (.nilFunc) from by kernel_rfl] at h2; cases h2
  meth := fun p hp => by cases hp
def ty57 : TI := { k := .func, size := 1, bytes := 8, zero := [.t .nilf], cmp := false }
theorem ok57 : TIOk Try.prog 57 ty57 where
  info := ⟨Try.t57, .nilFunc, by kernel_rfl, by kernel_rfl, by kernel_rfl, by kernel_rfl, by first | trivial | (simp [All2, zeroR, ty57, Value.cells]; done), fun h => by cases h⟩
  zlen := rfl
  kind := ⟨_, Try.underlying57, ⟨_, _, _, rfl⟩⟩
  flds := fun fields h => by rw [Try.underlying57] at h; cases h
  elt := fun n e h => by rw [Try.underlying57] at h; cases h
  cmp := fun h => by cases h
  zone := fun info cs h1 h2 => by rw [show Try.prog.info? 57 = some Try.t57 from by kernel_rfl] at h1; obtain rfl := Option.some.inj h1; rw [show Try.t57.zero = some (.nilFunc) from by kernel_rfl] at h2; cases h2
  meth := fun p hp => by cases hp
def ty58 : TI := { k := .slice 93, size := 1, bytes := 24, zero := [.own 3 []], cmp := false }
theorem ok58 : TIOk Try.prog 58 ty58 where
  info := ⟨Try.t58, .slice none 0 0, by kernel_rfl, by kernel_rfl, by kernel_rfl, by kernel_rfl, by first | trivial | (simp [All2, zeroR, ty58, Value.cells]; done), fun h => by cases h⟩
  zlen := rfl
  kind := ⟨_, Try.underlying58, rfl⟩
  flds := fun fields h => by rw [Try.underlying58] at h; cases h
  elt := fun n e h => by rw [Try.underlying58] at h; cases h
  cmp := fun h => by cases h
  zone := fun info cs h1 h2 => by rw [show Try.prog.info? 58 = some Try.t58 from by kernel_rfl] at h1; obtain rfl := Option.some.inj h1; rw [show Try.t58.zero = some (.slice none 0 0) from by kernel_rfl] at h2; cases h2
  meth := fun p hp => by cases hp
def ty59 : TI := { k := .slice 4, size := 1, bytes := 24, zero := [.own 1 []], cmp := false }
theorem ok59 : TIOk Try.prog 59 ty59 where
  info := ⟨Try.t59, .slice none 0 0, by kernel_rfl, by kernel_rfl, by kernel_rfl, by kernel_rfl, by first | trivial | (simp [All2, zeroR, ty59, Value.cells]; done), fun h => by cases h⟩
  zlen := rfl
  kind := ⟨_, Try.underlying59, rfl⟩
  flds := fun fields h => by rw [Try.underlying59] at h; cases h
  elt := fun n e h => by rw [Try.underlying59] at h; cases h
  cmp := fun h => by cases h
  zone := fun info cs h1 h2 => by rw [show Try.prog.info? 59 = some Try.t59 from by kernel_rfl] at h1; obtain rfl := Option.some.inj h1; rw [show Try.t59.zero = some (.slice none 0 0) from by kernel_rfl] at h2; cases h2
  meth := fun p hp => by cases hp
def ty61 : TI := { k := .func, size := 1, bytes := 8, zero := [.t .nilf], cmp := false }
theorem ok61 : TIOk Try.prog 61 ty61 where
  info := ⟨Try.t61, .nilFunc, by kernel_rfl, by kernel_rfl, by kernel_rfl, by kernel_rfl, by first | trivial | (simp [All2, zeroR, ty61, Value.cells]; done), fun h => by cases h⟩
  zlen := rfl
  kind := ⟨_, Try.underlying61, ⟨_, _, _, rfl⟩⟩
  flds := fun fields h => by rw [Try.underlying61] at h; cases h
  elt := fun n e h => by rw [Try.underlying61] at h; cases h
  cmp := fun h => by cases h
  zone := fun info cs h1 h2 => by rw [show Try.prog.info? 61 = some Try.t61 from by kernel_rfl] at h1; obtain rfl := Option.some.inj h1; rw [show Try.t61.zero = some (.nilFunc) from by kernel_rfl] at h2; cases h2
  meth := fun p hp => by cases hp
def ty62 : TI := { k := .func, size := 1, bytes := 8, zero := [.t .nilf], cmp := false }
theorem ok62 : TIOk Try.prog 62 ty62 where
  info := ⟨Try.t62, .nilFunc, by kernel_rfl, by kernel_rfl, by kernel_rfl, by kernel_rfl, by first | trivial | (simp [All2, zeroR, ty62, Value.cells]; done), fun h => by cases h⟩
  zlen := rfl
  kind := ⟨_, Try.underlying62, ⟨_, _, _, rfl⟩⟩
  flds := fun fields h => by rw [Try.underlying62] at h; cases h
  elt := fun n e h => by rw [Try.underlying62] at h; cases h
  cmp := fun h => by cases h
  zone := fun info cs h1 h2 => by rw [show Try.prog.info? 62 = some Try.t62 from by kernel_rfl] at h1; obtain rfl := Option.some.inj h1; rw [show Try.t62.zero = some (.nilFunc) from by kernel_rfl] at h2; cases h2
  meth := fun p hp => by cases hp
def ty63 : TI := { k := .func, size := 1, bytes := 8, zero := [.t .nilf], cmp := false }
theorem ok63 : TIOk Try.prog 63 ty63 where
  info := ⟨Try.t63, .nilFunc, by kernel_rfl, by kernel_rfl, by kernel_rfl, by kernel_rfl, by first | trivial | (simp [All2, zeroR, ty63, Value.cells]; done), fun h => by cases h⟩
  zlen := rfl
  kind := ⟨_, Try.underlying63, ⟨_, _, _, rfl⟩⟩
  flds := fun fields h => by rw [Try.underlying63] at h; cases h
  elt := fun n e h => by rw [Try.underlying63] at h; cases h
  cmp := fun h => by cases h
  zone := fun info cs h1 h2 => by rw [show Try.prog.info? 63 = some Try.t63 from by kernel_rfl] at h1; obtain rfl := Option.some.inj h1; rw [show Try.t63.zero = some (.nilFunc) from by kernel_rfl] at h2; cases h2
  meth := fun p hp => by cases hp
def ty64 : TI := { k := .func, size := 1, bytes := 8, zero := [.t .nilf], cmp := false }
theorem ok64 : TIOk Try.prog 64 ty64 where
  info := ⟨Try.t64, .nilFunc, by kernel_rfl, by kernel_rfl, by kernel_rfl, by kernel_rfl, by first | trivial | (simp [All2, zeroR, ty64, Value.cells]; done), fun h => by cases h⟩
  zlen := rfl
  kind := ⟨_, Try.underlying64, ⟨_, _, _, rfl⟩⟩
  flds := fun fields h => by rw [Try.underlying64] at h; cases h
  elt := fun n e h => by rw [Try.underlying64] at h; cases h
  cmp := fun h => by cases h
  zone := fun info cs h1 h2 => by rw [show Try.prog.info? 64 = some Try.t64 from by kernel_rfl] at h1; obtain rfl := Option.some.inj h1; rw [show Try.t64.zero = some (.nilFunc) from by kernel_rfl] at h2; cases h2
  meth := fun p hp => by cases hp
def ty65 : TI := { k := .func, size := 1, bytes := 8, zero := [.t .nilf], cmp := false }
theorem ok65 : TIOk Try.prog 65 ty65 where
  info := ⟨Try.t65, .nilFunc, by kernel_rfl, by kernel_rfl, by kernel_rfl, by kernel_rfl, by first | trivial | (simp [All2, zeroR, ty65, Value.cells]; done), fun h => by cases h⟩
  zlen := rfl
  kind := ⟨_, Try.underlying65, ⟨_, _, _, rfl⟩⟩
  flds := fun fields h => by rw [Try.underlying65] at h; cases h
  elt := fun n e h => by rw [Try.underlying65] at h; cases h
  cmp := fun h => by cases h
  zone := fun info cs h1 h2 => by rw [show Try.prog.info? 65 = some Try.t65 from by kernel_rfl] at h1; obtain rfl := Option.some.inj h1; rw [show Try.t65.zero = some (.nilFunc) from by kernel_rfl] at h2; cases h2
  meth := fun p hp => by cases hp
def ty66 : TI := { k := .func, size := 1, bytes := 8, zero := [.t .nilf], cmp := false }
theorem ok66 : TIOk Try.prog 66 ty66 where
  info := ⟨Try.t66, .nilFunc, by kernel_rfl, by kernel_rfl, by kernel_rfl, by kernel_rfl, by first | trivial | (simp [All2, zeroR, ty66, Value.cells]; done), fun h => by cases h⟩
  zlen := rfl
  kind := ⟨_, Try.underlying66, ⟨_, _, _, rfl⟩⟩
  flds := fun fields h => by rw [Try.underlying66] at h; cases h
  elt := fun n e h => by rw [Try.underlying66] at h; cases h
  cmp := fun h => by cases h
  zone := fun info cs h1 h2 => by rw [show Try.prog.info? 66 = some Try.t66 from by kernel_rfl] at h1; obtain rfl := Option.some.inj h1; rw [show Try.t66.zero = some (.nilFunc) from by kernel_rfl] at h2; cases h2
  meth := fun p hp => by cases hp
def ty67 : TI := { k := .func, size := 1, bytes := 8, zero := [.t .nilf], cmp := false }
theorem ok67 : TIOk Try.prog 67 ty67 where
  info := ⟨Try.t67, .nilFunc, by kernel_rfl, by kernel_rfl, by kernel_rfl, by kernel_rfl, by first | trivial | (simp [All2, zeroR, ty67, Value.cells]; done), fun h => by cases h⟩
  zlen := rfl
  kind := ⟨_, Try.underlying67, ⟨_, _, _, rfl⟩⟩
  flds := fun fields h => by rw [Try.underlying67] at h; cases h
  elt := fun n e h => by rw [Try.underlying67] at h; cases h
  cmp := fun h => by cases h
  zone := fun info cs h1 h2 => by rw [show Try.prog.info? 67 = some Try.t67 from by kernel_rfl] at h1; obtain rfl := Option.some.inj h1; rw [show Try.t67.zero = some (.nilFunc) from by kernel_rfl] at h2; cases h2
  meth := fun p hp => by cases hp
def ty68 : TI := { k := .func, size := 1, bytes := 8, zero := [.t .nilf], cmp := false }
theorem ok68 : TIOk Try.prog 68 ty68 where
  info := ⟨Try.t68, .nilFunc, by kernel_rfl, by kernel_rfl, by kernel_rfl, by kernel_rfl, by first | trivial | (simp [All2, zeroR, ty68, Value.cells]; done), fun h => by cases h⟩
  zlen := rfl
  kind := ⟨_, Try.underlying68, ⟨_, _, _, rfl⟩⟩
  flds := fun fields h => by rw [Try.underlying68] at h; cases h
  elt := fun n e h => by rw [Try.underlying68] at h; cases h
  cmp := fun h => by cases h
  zone := fun info cs h1 h2 => by rw [show Try.prog.info? 68 = some Try.t68 from by kernel_rfl] at h1; obtain rfl := Option.some.inj h1; rw [show Try.t68.zero = some (.nilFunc) from by kernel_rfl] at h2; cases h2
  meth := fun p hp => by cases hp
def ty70 : TI := { k := .struct [(25, 0), (68, 1)], size := 2, bytes := 32, zero := [.own 2 [], .t .nilf], cmp := false }
theorem ok70 : TIOk Try.prog 70 ty70 where
  info := ⟨Try.t70, .agg #[.slice none 0 0, .nilFunc], by kernel_rfl, by kernel_rfl, by kernel_rfl, by kernel_rfl, by first | trivial | (simp [All2, zeroR, ty70, Value.cells]; done), fun _ => ⟨_, rfl⟩⟩
  zlen := rfl
  kind := ⟨_, Try.underlying70, ⟨_, rfl, rfl, by kernel_rfl⟩⟩
  flds := fun fields h => by rw [Try.underlying70] at h; cases h; kernel_rfl
  elt := fun n e h => by rw [Try.underlying70] at h; cases h
  cmp := fun h => by cases h
  zone := fun info cs h1 h2 => rfl
  meth := fun p hp => by cases hp
def ty72 : TI := { k := .struct [(3, 0), (3, 1), (70, 2)], size := 4, bytes := 48, zero := [.t (.int .i64 0), .t (.int .i64 0), .own 2 [], .t .nilf], cmp := false }
theorem ok72 : TIOk Try.prog 72 ty72 where
  info := ⟨Try.t72, .agg #[.int .i64 0, .int .i64 0, .slice none 0 0, .nilFunc], by kernel_rfl, by kernel_rfl, by kernel_rfl, by kernel_rfl, by first | trivial | (simp [All2, zeroR, ty72, Value.cells]; done), fun _ => ⟨_, rfl⟩⟩
  zlen := rfl
  kind := ⟨_, Try.underlying72, ⟨_, rfl, rfl, by kernel_rfl⟩⟩
  flds := fun fields h => by rw [Try.underlying72] at h; cases h; kernel_rfl
  elt := fun n e h => by rw [Try.underlying72] at h; cases h
  cmp := fun h => by cases h
  zone := fun info cs h1 h2 => rfl
  meth := fun p hp => by cases hp
def ty73 : TI := { k := .func, size := 1, bytes := 8, zero := [.t .nilf], cmp := false }
theorem ok73 : TIOk Try.prog 73 ty73 where
  info := ⟨Try.t73, .nilFunc, by kernel_rfl, by kernel_rfl, by kernel_rfl, by kernel_rfl, by first | trivial | (simp [All2, zeroR, ty73, Value.cells]; done), fun h => by cases h⟩
  zlen := rfl
  kind := ⟨_, Try.underlying73, ⟨_, _, _, rfl⟩⟩
  flds := fun fields h => by rw [Try.underlying73] at h; cases h
  elt := fun n e h => by rw [Try.underlying73] at h; cases h
  cmp := fun h => by cases h
  zone := fun info cs h1 h2 => by rw [show Try.prog.info? 73 = some Try.t73 from by kernel_rfl] at h1; obtain rfl := Option.some.inj h1; rw [show Try.t73.zero = some (.nilFunc) from by kernel_rfl] at h2; cases h2
  meth := fun p hp => by cases hp
def ty74 : TI := { k := .func, size := 1, bytes := 8, zero := [.t .nilf], cmp := false }
theorem ok74 : TIOk Try.prog 74 ty74 where
  info := ⟨Try.t74, .nilFunc, by kernel_rfl, by kernel_rfl, by kernel_rfl, by kernel_rfl, by first | trivial | (simp [All2, zeroR, ty74, Value.cells]; done), fun h => by cases h⟩
  zlen := rfl
  kind := ⟨_, Try.underlying74, ⟨_, _, _, rfl⟩⟩
  flds := fun fields h => by rw [Try.underlying74] at h; cases h
  elt := fun n e h => by rw [Try.underlying74] at h; cases h
  cmp := fun h => by cases h
  zone := fun info cs h1 h2 => by rw [show Try.prog.info? 74 = some Try.t74 from by kernel_rfl] at h1; obtain rfl := Option.some.inj h1; rw [show Try.t74.zero = some (.nilFunc) from by kernel_rfl] at h2; cases h2
  meth := fun p hp => by cases hp
def ty75 : TI := { k := .ptr 70, size := 1, bytes := 8, zero := [.t .nilp], cmp := false, meth := [("Len", 102), ("Less", 103), ("Pop", 104), ("Push", 105), ("Swap", 106)] }
theorem ok75 : TIOk Try.prog 75 ty75 where
  info := ⟨Try.t75, .pointer none, by kernel_rfl, by kernel_rfl, by kernel_rfl, by kernel_rfl, by first | trivial | (simp [All2, zeroR, ty75, Value.cells]; done), fun h => by cases h⟩
  zlen := rfl
  kind := ⟨_, Try.underlying75, rfl⟩
  flds := fun fields h => by rw [Try.underlying75] at h; cases h
  elt := fun n e h => by rw [Try.underlying75] at h; cases h
  cmp := fun h => by cases h
  zone := fun info cs h1 h2 => by rw [show Try.prog.info? 75 = some Try.t75 from by kernel_rfl] at h1; obtain rfl := Option.some.inj h1; rw [show Try.t75.zero = some (.pointer none) from by kernel_rfl] at h2; cases h2
  meth := by
    simp only [ty75, List.forall_mem_cons]
    exact ⟨fun _ _ => by kernel_rfl, fun _ _ => by kernel_rfl, fun _ _ => by kernel_rfl, fun _ _ => by kernel_rfl, fun _ _ => by kernel_rfl, fun p hp => by cases hp⟩
def ty76 : TI := { k := .func, size := 1, bytes := 8, zero := [.t .nilf], cmp := false }
theorem ok76 : TIOk Try.prog 76 ty76 where
  info := ⟨Try.t76, .nilFunc, by kernel_rfl, by kernel_rfl, by kernel_rfl, by kernel_rfl, by first | trivial | (simp [All2, zeroR, ty76, Value.cells]; done), fun h => by cases h⟩
  zlen := rfl
  kind := ⟨_, Try.underlying76, ⟨_, _, _, rfl⟩⟩
  flds := fun fields h => by rw [Try.underlying76] at h; cases h
  elt := fun n e h => by rw [Try.underlying76] at h; cases h
  cmp := fun h => by cases h
  zone := fun info cs h1 h2 => by rw [show Try.prog.info? 76 = some Try.t76 from by kernel_rfl] at h1; obtain rfl := Option.some.inj h1; rw [show Try.t76.zero = some (.nilFunc) from by kernel_rfl] at h2; cases h2
  meth := fun p hp => by cases hp
def ty77 : TI := { k := .map 3 3, size := 1, bytes := 8, zero := [.t .nilm], cmp := false }
theorem ok77 : TIOk Try.prog 77 ty77 where
  info := ⟨Try.t77, .map none, by kernel_rfl, by kernel_rfl, by kernel_rfl, by kernel_rfl, by first | trivial | (simp [All2, zeroR, ty77, Value.cells]; done), fun h => by cases h⟩
  zlen := rfl
  kind := ⟨_, Try.underlying77, rfl⟩
  flds := fun fields h => by rw [Try.underlying77] at h; cases h
  elt := fun n e h => by rw [Try.underlying77] at h; cases h
  cmp := fun h => by cases h
  zone := fun info cs h1 h2 => by rw [show Try.prog.info? 77 = some Try.t77 from by kernel_rfl] at h1; obtain rfl := Option.some.inj h1; rw [show Try.t77.zero = some (.map none) from by kernel_rfl] at h2; cases h2
  meth := fun p hp => by cases hp
def ty78 : TI := { k := .map 3 4, size := 1, bytes := 8, zero := [.t .nilm], cmp := false }
theorem ok78 : TIOk Try.prog 78 ty78 where
  info := ⟨Try.t78, .map none, by kernel_rfl, by kernel_rfl, by kernel_rfl, by kernel_rfl, by first | trivial | (simp [All2, zeroR, ty78, Value.cells]; done), fun h => by cases h⟩
  zlen := rfl
  kind := ⟨_, Try.underlying78, rfl⟩
  flds := fun fields h => by rw [Try.underlying78] at h; cases h
  elt := fun n e h => by rw [Try.underlying78] at h; cases h
  cmp := fun h => by cases h
  zone := fun info cs h1 h2 => by rw [show Try.prog.info? 78 = some Try.t78 from by kernel_rfl] at h1; obtain rfl := Option.some.inj h1; rw [show Try.t78.zero = some (.map none) from by kernel_rfl] at h2; cases h2
  meth := fun p hp => by cases hp
def ty79 : TI := { k := .func, size := 1, bytes := 8, zero := [.t .nilf], cmp := false }
theorem ok79 : TIOk Try.prog 79 ty79 where
  info := ⟨Try.t79, .nilFunc, by kernel_rfl, by kernel_rfl, by kernel_rfl, by kernel_rfl, by first | trivial | (simp [All2, zeroR, ty79, Value.cells]; done), fun h => by cases h⟩
  zlen := rfl
  kind := ⟨_, Try.underlying79, ⟨_, _, _, rfl⟩⟩
  flds := fun fields h => by rw [Try.underlying79] at h; cases h
  elt := fun n e h => by rw [Try.underlying79] at h; cases h
  cmp := fun h => by cases h
  zone := fun info cs h1 h2 => by rw [show Try.prog.info? 79 = some Try.t79 from by kernel_rfl] at h1; obtain rfl := Option.some.inj h1; rw [show Try.t79.zero = some (.nilFunc) from by kernel_rfl] at h2; cases h2
  meth := fun p hp => by cases hp
def ty80 : TI := { k := .func, size := 1, bytes := 8, zero := [.t .nilf], cmp := false }
theorem ok80 : TIOk Try.prog 80 ty80 where
  info := ⟨Try.t80, .nilFunc, by kernel_rfl, by kernel_rfl, by kernel_rfl, by kernel_rfl, by first | trivial | (simp [All2, zeroR, ty80, Value.cells]; done), fun h => by cases h⟩
  zlen := rfl
  kind := ⟨_, Try.underlying80, ⟨_, _, _, rfl⟩⟩
  flds := fun fields h => by rw [Try.underlying80] at h; cases h
  elt := fun n e h => by rw [Try.underlying80] at h; cases h
  cmp := fun h => by cases h
  zone := fun info cs h1 h2 => by rw [show Try.prog.info? 80 = some Try.t80 from by kernel_rfl] at h1; obtain rfl := Option.some.inj h1; rw [show Try.t80.zero = some (.nilFunc) from by kernel_rfl] at h2; cases h2
  meth := fun p hp => by cases hp
def ty81 : TI := { k := .func, size := 1, bytes := 8, zero := [.t .nilf], cmp := false }
theorem ok81 : TIOk Try.prog 81 ty81 where
  info := ⟨Try.t81, .nilFunc, by kernel_rfl, by kernel_rfl, by kernel_rfl, by kernel_rfl, by first | trivial | (simp [All2, zeroR, ty81, Value.cells]; done), fun h => by cases h⟩
  zlen := rfl
  kind := ⟨_, Try.underlying81, ⟨_, _, _, rfl⟩⟩
  flds := fun fields h => by rw [Try.underlying81] at h; cases h
  elt := fun n e h => by rw [Try.underlying81] at h; cases h
  cmp := fun h => by cases h
  zone := fun info cs h1 h2 => by rw [show Try.prog.info? 81 = some Try.t81 from by kernel_rfl] at h1; obtain rfl := Option.some.inj h1; rw [show Try.t81.zero = some (.nilFunc) from by kernel_rfl] at h2; cases h2
  meth := fun p hp => by cases hp
def ty82 : TI := { k := .func, size := 1, bytes := 8, zero := [.t .nilf], cmp := false }
theorem ok82 : TIOk Try.prog 82 ty82 where
  info := ⟨Try.t82, .nilFunc, by kernel_rfl, by kernel_rfl, by kernel_rfl, by kernel_rfl, by first | trivial | (simp [All2, zeroR, ty82, Value.cells]; done), fun h => by cases h⟩
  zlen := rfl
  kind := ⟨_, Try.underlying82, ⟨_, _, _, rfl⟩⟩
  flds := fun fields h => by rw [Try.underlying82] at h; cases h
  elt := fun n e h => by rw [Try.underlying82] at h; cases h
  cmp := fun h => by cases h
  zone := fun info cs h1 h2 => by rw [show Try.prog.info? 82 = some Try.t82 from by kernel_rfl] at h1; obtain rfl := Option.some.inj h1; rw [show Try.t82.zero = some (.nilFunc) from by kernel_rfl] at h2; cases h2
  meth := fun p hp => by cases hp
def ty83 : TI := { k := .func, size := 1, bytes := 8, zero := [.t .nilf], cmp := false }
theorem ok83 : TIOk Try.prog 83 ty83 where
  info := ⟨Try.t83, .nilFunc, by kernel_rfl, by kernel_rfl, by kernel_rfl, by kernel_rfl, by first | trivial | (simp [All2, zeroR, ty83, Value.cells]; done), fun h => by cases h⟩
  zlen := rfl
  kind := ⟨_, Try.underlying83, ⟨_, _, _, rfl⟩⟩
  flds := fun fields h => by rw [Try.underlying83] at h; cases h
  elt := fun n e h => by rw [Try.underlying83] at h; cases h
  cmp := fun h => by cases h
  zone := fun info cs h1 h2 => by rw [show Try.prog.info? 83 = some Try.t83 from by kernel_rfl] at h1; obtain rfl := Option.some.inj h1; rw [show Try.t83.zero = some (.nilFunc) from by kernel_rfl] at h2; cases h2
  meth := fun p hp => by cases hp
def ty84 : TI := { k := .func, size := 1, bytes := 8, zero := [.t .nilf], cmp := false }
theorem ok84 : TIOk Try.prog 84 ty84 where
  info := ⟨Try.t84, .nilFunc, by kernel_rfl, by kernel_rfl, by kernel_rfl, by kernel_rfl, by first | trivial | (simp [All2, zeroR, ty84, Value.cells]; done), fun h => by cases h⟩
  zlen := rfl
  kind := ⟨_, Try.underlying84, ⟨_, _, _, rfl⟩⟩
  flds := fun fields h => by rw [Try.underlying84] at h; cases h
  elt := fun n e h => by rw [Try.underlying84] at h; cases h
  cmp := fun h => by cases h
  zone := fun info cs h1 h2 => by rw [show Try.prog.info? 84 = some Try.t84 from by kernel_rfl] at h1; obtain rfl := Option.some.inj h1; rw [show Try.t84.zero = some (.nilFunc) from by kernel_rfl] at h2; cases h2
  meth := fun p hp => by cases hp
def ty86 : TI := { k := .func, size := 1, bytes := 8, zero := [.t .nilf], cmp := false }
theorem ok86 : TIOk Try.prog 86 ty86 where
  info := ⟨Try.t86, .nilFunc, by kernel_rfl, by kernel_rfl, by kernel_rfl, by kernel_rfl, by first | trivial | (simp [All2, zeroR, ty86, Value.cells]; done), fun h => by cases h⟩
  zlen := rfl
  kind := ⟨_, Try.underlying86, ⟨_, _, _, rfl⟩⟩
  flds := fun fields h => by rw [Try.underlying86] at h; cases h
  elt := fun n e h => by rw [Try.underlying86] at h; cases h
  cmp := fun h => by cases h
  zone := fun info cs h1 h2 => by rw [show Try.prog.info? 86 = some Try.t86 from by kernel_rfl] at h1; obtain rfl := Option.some.inj h1; rw [show Try.t86.zero = some (.nilFunc) from by kernel_rfl] at h2; cases h2
  meth := fun p hp => by cases hp
def ty88 : TI := { k := .func, size := 1, bytes := 8, zero := [.t .nilf], cmp := false }
theorem ok88 : TIOk Try.prog 88 ty88 where
  info := ⟨Try.t88, .nilFunc, by kernel_rfl, by kernel_rfl, by kernel_rfl, by kernel_rfl, by first | trivial | (simp [All2, zeroR, ty88, Value.cells]; done), fun h => by cases h⟩
  zlen := rfl
  kind := ⟨_, Try.underlying88, ⟨_, _, _, rfl⟩⟩
  flds := fun fields h => by rw [Try.underlying88] at h; cases h
  elt := fun n e h => by rw [Try.underlying88] at h; cases h
  cmp := fun h => by cases h
  zone := fun info cs h1 h2 => by rw [show Try.prog.info? 88 = some Try.t88 from by kernel_rfl] at h1; obtain rfl := Option.some.inj h1; rw [show Try.t88.zero = some (.nilFunc) from by kernel_rfl] at h2; cases h2
  meth := fun p hp => by cases hp
def ty90 : TI := { k := .func, size := 1, bytes := 8, zero := [.t .nilf], cmp := false }
theorem ok90 : TIOk Try.prog 90 ty90 where
  info := ⟨Try.t90, .nilFunc, by kernel_rfl, by kernel_rfl, by kernel_rfl, by kernel_rfl, by first | trivial | (simp [All2, zeroR, ty90, Value.cells]; done), fun h => by cases h⟩
  zlen := rfl
  kind := ⟨_, Try.underlying90, ⟨_, _, _, rfl⟩⟩
  flds := fun fields h => by rw [Try.underlying90] at h; cases h
  elt := fun n e h => by rw [Try.underlying90] at h; cases h
  cmp := fun h => by cases h
  zone := fun info cs h1 h2 => by rw [show Try.prog.info? 90 = some Try.t90 from by kernel_rfl] at h1; obtain rfl := Option.some.inj h1; rw [show Try.t90.zero = some (.nilFunc) from by kernel_rfl] at h2; cases h2
  meth := fun p hp => by cases hp
def ty91 : TI := { k := .map 93 3, size := 1, bytes := 8, zero := [.t .nilm], cmp := false }
theorem ok91 : TIOk Try.prog 91 ty91 where
  info := ⟨Try.t91, .map none, by kernel_rfl, by kernel_rfl, by kernel_rfl, by kernel_rfl, by first | trivial | (simp [All2, zeroR, ty91, Value.cells]; done), fun h => by cases h⟩
  zlen := rfl
  kind := ⟨_, Try.underlying91, rfl⟩
  flds := fun fields h => by rw [Try.underlying91] at h; cases h
  elt := fun n e h => by rw [Try.underlying91] at h; cases h
  cmp := fun h => by cases h
  zone := fun info cs h1 h2 => by rw [show Try.prog.info? 91 = some Try.t91 from by kernel_rfl] at h1; obtain rfl := Option.some.inj h1; rw [show Try.t91.zero = some (.map none) from by kernel_rfl] at h2; cases h2
  meth := fun p hp => by cases hp
def ty93 : TI := { k := .struct [(3, 0), (3, 1), (9, 2)], size := 3, bytes := 32, zero := [.t (.int .i64 0), .t (.int .i64 0), .t (.str "".toUTF8)], cmp := true }
theorem ok93 : TIOk Try.prog 93 ty93 where
  info := ⟨Try.t93, .agg #[.int .i64 0, .int .i64 0, .string "".toUTF8], by kernel_rfl, by kernel_rfl, by kernel_rfl, by kernel_rfl, by first | trivial | (simp [All2, zeroR, ty93, Value.cells]; done), fun _ => ⟨_, rfl⟩⟩
  zlen := rfl
  kind := ⟨_, Try.underlying93, ⟨_, rfl, rfl, by kernel_rfl⟩⟩
  flds := fun fields h => by rw [Try.underlying93] at h; cases h; kernel_rfl
  elt := fun n e h => by rw [Try.underlying93] at h; cases h
  cmp := fun h => ⟨by kernel_rfl, by kernel_rfl⟩
  zone := fun info cs h1 h2 => rfl
  meth := fun p hp => by cases hp
def ty94 : TI := { k := .func, size := 1, bytes := 8, zero := [.t .nilf], cmp := false }
theorem ok94 : TIOk Try.prog 94 ty94 where
  info := ⟨Try.t94, .nilFunc, by kernel_rfl, by kernel_rfl, by kernel_rfl, by kernel_rfl, by first | trivial | (simp [All2, zeroR, ty94, Value.cells]; done), fun h => by cases h⟩
  zlen := rfl
  kind := ⟨_, Try.underlying94, ⟨_, _, _, rfl⟩⟩
  flds := fun fields h => by rw [Try.underlying94] at h; cases h
  elt := fun n e h => by rw [Try.underlying94] at h; cases h
  cmp := fun h => by cases h
  zone := fun info cs h1 h2 => by rw [show Try.prog.info? 94 = some Try.t94 from by kernel_rfl] at h1; obtain rfl := Option.some.inj h1; rw [show Try.t94.zero = some (.nilFunc) from by kernel_rfl] at h2; cases h2
  meth := fun p hp => by cases hp
def ty95 : TI := { k := .func, size := 1, bytes := 8, zero := [.t .nilf], cmp := false }
theorem ok95 : TIOk Try.prog 95 ty95 where
  info := ⟨Try.t95, .nilFunc, by kernel_rfl, by kernel_rfl, by kernel_rfl, by kernel_rfl, by first | trivial | (simp [All2, zeroR, ty95, Value.cells]; done), fun h => by cases h⟩
  zlen := rfl
  kind := ⟨_, Try.underlying95, ⟨_, _, _, rfl⟩⟩
  flds := fun fields h => by rw [Try.underlying95] at h; cases h
  elt := fun n e h => by rw [Try.underlying95] at h; cases h
  cmp := fun h => by cases h
  zone := fun info cs h1 h2 => by rw [show Try.prog.info? 95 = some Try.t95 from by kernel_rfl] at h1; obtain rfl := Option.some.inj h1; rw [show Try.t95.zero = some (.nilFunc) from by kernel_rfl] at h2; cases h2
  meth := fun p hp => by cases hp
def ty96 : TI := { k := .int .u64, size := 1, bytes := 8, zero := [.t (.int .u64 0)], cmp := false }
theorem ok96 : TIOk Try.prog 96 ty96 where
  info := ⟨Try.t96, .int .u64 0, by kernel_rfl, by kernel_rfl, by kernel_rfl, by kernel_rfl, by first | trivial | (simp [All2, zeroR, ty96, Value.cells]; done), fun h => by cases h⟩
  zlen := rfl
  kind := ⟨_, Try.underlying96, rfl⟩
  flds := fun fields h => by rw [Try.underlying96] at h; cases h
  elt := fun n e h => by rw [Try.underlying96] at h; cases h
  cmp := fun h => by cases h
  zone := fun info cs h1 h2 => by rw [show Try.prog.info? 96 = some Try.t96 from by kernel_rfl] at h1; obtain rfl := Option.some.inj h1; rw [show Try.t96.zero = some (.int .u64 0) from by kernel_rfl] at h2; cases h2
  meth := fun p hp => by cases hp
def ty97 : TI := { k := .func, size := 1, bytes := 8, zero := [.t .nilf], cmp := false }
theorem ok97 : TIOk Try.prog 97 ty97 where
  info := ⟨Try.t97, .nilFunc, by kernel_rfl, by kernel_rfl, by kernel_rfl, by kernel_rfl, by first | trivial | (simp [All2, zeroR, ty97, Value.cells]; done), fun h => by cases h⟩
  zlen := rfl
  kind := ⟨_, Try.underlying97, ⟨_, _, _, rfl⟩⟩
  flds := fun fields h => by rw [Try.underlying97] at h; cases h
  elt := fun n e h => by rw [Try.underlying97] at h; cases h
  cmp := fun h => by cases h
  zone := fun info cs h1 h2 => by rw [show Try.prog.info? 97 = some Try.t97 from by kernel_rfl] at h1; obtain rfl := Option.some.inj h1; rw [show Try.t97.zero = some (.nilFunc) from by kernel_rfl] at h2; cases h2
  meth := fun p hp => by cases hp
def ty98 : TI := { k := .iface false, size := 1, bytes := 16, zero := [.t .nili], cmp := false }
theorem ok98 : TIOk Try.prog 98 ty98 where
  info := ⟨Try.t98, .nilIface, by kernel_rfl, by kernel_rfl, by kernel_rfl, by kernel_rfl, by first | trivial | (simp [All2, zeroR, ty98, Value.cells]; done), fun h => by cases h⟩
  zlen := rfl
  kind := ⟨_, Try.underlying98, ⟨_, rfl, by kernel_rfl⟩⟩
  flds := fun fields h => by rw [Try.underlying98] at h; cases h
  elt := fun n e h => by rw [Try.underlying98] at h; cases h
  cmp := fun h => by cases h
  zone := fun info cs h1 h2 => by rw [show Try.prog.info? 98 = some Try.t98 from by kernel_rfl] at h1; obtain rfl := Option.some.inj h1; rw [show Try.t98.zero = some (.nilIface) from by kernel_rfl] at h2; cases h2
  meth := fun p hp => by cases hp
def ty99 : TI := { k := .iface false, size := 1, bytes := 16, zero := [.t .nili], cmp := false }
theorem ok99 : TIOk Try.prog 99 ty99 where
  info := ⟨Try.t99, .nilIface, by kernel_rfl, by kernel_rfl, by kernel_rfl, by kernel_rfl, by first | trivial | (simp [All2, zeroR, ty99, Value.cells]; done), fun h => by cases h⟩
  zlen := rfl
  kind := ⟨_, Try.underlying99, ⟨_, rfl, by kernel_rfl⟩⟩
  flds := fun fields h => by rw [Try.underlying99] at h; cases h
  elt := fun n e h => by rw [Try.underlying99] at h; cases h
  cmp := fun h => by cases h
  zone := fun info cs h1 h2 => by rw [show Try.prog.info? 99 = some Try.t99 from by kernel_rfl] at h1; obtain rfl := Option.some.inj h1; rw [show Try.t99.zero = some (.nilIface) from by kernel_rfl] at h2; cases h2
  meth := fun p hp => by cases hp
def ty100 : TI := { k := .func, size := 1, bytes := 8, zero := [.t .nilf], cmp := false }
theorem ok100 : TIOk Try.prog 100 ty100 where
  info := ⟨Try.t100, .nilFunc, by kernel_rfl, by kernel_rfl, by kernel_rfl, by kernel_rfl, by first | trivial | (simp [All2, zeroR, ty100, Value.cells]; done), fun h => by cases h⟩
  zlen := rfl
  kind := ⟨_, Try.underlying100, ⟨_, _, _, rfl⟩⟩
  flds := fun fields h => by rw [Try.underlying100] at h; cases h
  elt := fun n e h => by rw [Try.underlying100] at h; cases h
  cmp := fun h => by cases h
  zone := fun info cs h1 h2 => by rw [show Try.prog.info? 100 = some Try.t100 from by kernel_rfl] at h1; obtain rfl := Option.some.inj h1; rw [show Try.t100.zero = some (.nilFunc) from by kernel_rfl] at h2; cases h2
  meth := fun p hp => by cases hp
def ty101 : TI := { k := .func, size := 1, bytes := 8, zero := [.t .nilf], cmp := false }
theorem ok101 : TIOk Try.prog 101 ty101 where
  info := ⟨Try.t101, .nilFunc, by kernel_rfl, by kernel_rfl, by kernel_rfl, by kernel_rfl, by first | trivial | (simp [All2, zeroR, ty101, Value.cells]; done), fun h => by cases h⟩
  zlen := rfl
  kind := ⟨_, Try.underlying101, ⟨_, _, _, rfl⟩⟩
  flds := fun fields h => by rw [Try.underlying101] at h; cases h
  elt := fun n e h => by rw [Try.underlying101] at h; cases h
  cmp := fun h => by cases h
  zone := fun info cs h1 h2 => by rw [show Try.prog.info? 101 = some Try.t101 from by kernel_rfl] at h1; obtain rfl := Option.some.inj h1; rw [show Try.t101.zero = some (.nilFunc) from by kernel_rfl] at h2; cases h2
  meth := fun p hp => by cases hp
def ty102 : TI := { k := .func, size := 1, bytes := 8, zero := [.t .nilf], cmp := false }
theorem ok102 : TIOk Try.prog 102 ty102 where
  info := ⟨Try.t102, .nilFunc, by kernel_rfl, by kernel_rfl, by kernel_rfl, by kernel_rfl, by first | trivial | (simp [All2, zeroR, ty102, Value.cells]; done), fun h => by cases h⟩
  zlen := rfl
  kind := ⟨_, Try.underlying102, ⟨_, _, _, rfl⟩⟩
  flds := fun fields h => by rw [Try.underlying102] at h; cases h
  elt := fun n e h => by rw [Try.underlying102] at h; cases h
  cmp := fun h => by cases h
  zone := fun info cs h1 h2 => by rw [show Try.prog.info? 102 = some Try.t102 from by kernel_rfl] at h1; obtain rfl := Option.some.inj h1; rw [show Try.t102.zero = some (.nilFunc) from by kernel_rfl] at h2; cases h2
  meth := fun p hp => by cases hp
def ty103 : TI := { k := .func, size := 1, bytes := 8, zero := [.t .nilf], cmp := false }
theorem ok103 : TIOk Try.prog 103 ty103 where
  info := ⟨Try.t103, .nilFunc, by kernel_rfl, by kernel_rfl, by kernel_rfl, by kernel_rfl, by first | trivial | (simp [All2, zeroR, ty103, Value.cells]; done), fun h => by cases h⟩
  zlen := rfl
  kind := ⟨_, Try.underlying103, ⟨_, _, _, rfl⟩⟩
  flds := fun fields h => by rw [Try.underlying103] at h; cases h
  elt := fun n e h => by rw [Try.underlying103] at h; cases h
  cmp := fun h => by cases h
  zone := fun info cs h1 h2 => by rw [show Try.prog.info? 103 = some Try.t103 from by kernel_rfl] at h1; obtain rfl := Option.some.inj h1; rw [show Try.t103.zero = some (.nilFunc) from by kernel_rfl] at h2; cases h2
  meth := fun p hp => by cases hp
def ty104 : TI := { k := .func, size := 1, bytes := 8, zero := [.t .nilf], cmp := false }
theorem ok104 : TIOk Try.prog 104 ty104 where
  info := ⟨Try.t104, .nilFunc, by kernel_rfl, by kernel_rfl, by kernel_rfl, by kernel_rfl, by first | trivial | (simp [All2, zeroR, ty104, Value.cells]; done), fun h => by cases h⟩
  zlen := rfl
  kind := ⟨_, Try.underlying104, ⟨_, _, _, rfl⟩⟩
  flds := fun fields h => by rw [Try.underlying104] at h; cases h
  elt := fun n e h => by rw [Try.underlying104] at h; cases h
  cmp := fun h => by cases h
  zone := fun info cs h1 h2 => by rw [show Try.prog.info? 104 = some Try.t104 from by kernel_rfl] at h1; obtain rfl := Option.some.inj h1; rw [show Try.t104.zero = some (.nilFunc) from by kernel_rfl] at h2; cases h2
  meth := fun p hp => by cases hp
def ty105 : TI := { k := .func, size := 1, bytes := 8, zero := [.t .nilf], cmp := false }
theorem ok105 : TIOk Try.prog 105 ty105 where
  info := ⟨Try.t105, .nilFunc, by kernel_rfl, by kernel_rfl, by kernel_rfl, by kernel_rfl, by first | trivial | (simp [All2, zeroR, ty105, Value.cells]; done), fun h => by cases h⟩
  zlen := rfl
  kind := ⟨_, Try.underlying105, ⟨_, _, _, rfl⟩⟩
  flds := fun fields h => by rw [Try.underlying105] at h; cases h
  elt := fun n e h => by rw [Try.underlying105] at h; cases h
  cmp := fun h => by cases h
  zone := fun info cs h1 h2 => by rw [show Try.prog.info? 105 = some Try.t105 from by kernel_rfl] at h1; obtain rfl := Option.some.inj h1; rw [show Try.t105.zero = some (.nilFunc) from by kernel_rfl] at h2; cases h2
  meth := fun p hp => by cases hp
def ty106 : TI := { k := .func, size := 1, bytes := 8, zero := [.t .nilf], cmp := false }
theorem ok106 : TIOk Try.prog 106 ty106 where
  info := ⟨Try.t106, .nilFunc, by kernel_rfl, by kernel_rfl, by kernel_rfl, by kernel_rfl, by first | trivial | (simp [All2, zeroR, ty106, Value.cells]; done), fun h => by cases h⟩
  zlen := rfl
  kind := ⟨_, Try.underlying106, ⟨_, _, _, rfl⟩⟩
  flds := fun fields h => by rw [Try.underlying106] at h; cases h
  elt := fun n e h => by rw [Try.underlying106] at h; cases h
  cmp := fun h => by cases h
  zone := fun info cs h1 h2 => by rw [show Try.prog.info? 106 = some Try.t106 from by kernel_rfl] at h1; obtain rfl := Option.some.inj h1; rw [show Try.t106.zero = some (.nilFunc) from by kernel_rfl] at h2; cases h2
  meth := fun p hp => by cases hp
def ty107 : TI := { k := .int .u64, size := 1, bytes := 8, zero := [.t (.int .u64 0)], cmp := false }
theorem ok107 : TIOk Try.prog 107 ty107 where
  info := ⟨Try.t107, .int .u64 0, by kernel_rfl, by kernel_rfl, by kernel_rfl, by kernel_rfl, by first | trivial | (simp [All2, zeroR, ty107, Value.cells]; done), fun h => by cases h⟩
  zlen := rfl
  kind := ⟨_, Try.underlying107, rfl⟩
  flds := fun fields h => by rw [Try.underlying107] at h; cases h
  elt := fun n e h => by rw [Try.underlying107] at h; cases h
  cmp := fun h => by cases h
  zone := fun info cs h1 h2 => by rw [show Try.prog.info? 107 = some Try.t107 from by kernel_rfl] at h1; obtain rfl := Option.some.inj h1; rw [show Try.t107.zero = some (.int .u64 0) from by kernel_rfl] at h2; cases h2
  meth := fun p hp => by cases hp
def ty109 : TI := { k := .func, size := 1, bytes := 8, zero := [.t .nilf], cmp := false }
theorem ok109 : TIOk Try.prog 109 ty109 where
  info := ⟨Try.t109, .nilFunc, by kernel_rfl, by kernel_rfl, by kernel_rfl, by kernel_rfl, by first | trivial | (simp [All2, zeroR, ty109, Value.cells]; done), fun h => by cases h⟩
  zlen := rfl
  kind := ⟨_, Try.underlying109, ⟨_, _, _, rfl⟩⟩
  flds := fun fields h => by rw [Try.underlying109] at h; cases h
  elt := fun n e h => by rw [Try.underlying109] at h; cases h
  cmp := fun h => by cases h
  zone := fun info cs h1 h2 => by rw [show Try.prog.info? 109 = some Try.t109 from by kernel_rfl] at h1; obtain rfl := Option.some.inj h1; rw [show Try.t109.zero = some (.nilFunc) from by kernel_rfl] at h2; cases h2
  meth := fun p hp => by cases hp
def ty110 : TI := { k := .func, size := 1, bytes := 8, zero := [.t .nilf], cmp := false }
theorem ok110 : TIOk Try.prog 110 ty110 where
  info := ⟨Try.t110, .nilFunc, by kernel_rfl, by kernel_rfl, by kernel_rfl, by kernel_rfl, by first | trivial | (simp [All2, zeroR, ty110, Value.cells]; done), fun h => by cases h⟩
  zlen := rfl
  kind := ⟨_, Try.underlying110, ⟨_, _, _, rfl⟩⟩
  flds := fun fields h => by rw [Try.underlying110] at h; cases h
  elt := fun n e h => by rw [Try.underlying110] at h; cases h
  cmp := fun h => by cases h
  zone := fun info cs h1 h2 => by rw [show Try.prog.info? 110 = some Try.t110 from by kernel_rfl] at h1; obtain rfl := Option.some.inj h1; rw [show Try.t110.zero = some (.nilFunc) from by kernel_rfl] at h2; cases h2
  meth := fun p hp => by cases hp
def ty111 : TI := { k := .func, size := 1, bytes := 8, zero := [.t .nilf], cmp := false }
theorem ok111 : TIOk Try.prog 111 ty111 where
  info := ⟨Try.t111, .nilFunc, by kernel_rfl, by kernel_rfl, by kernel_rfl, by kernel_rfl, by first | trivial | (simp [All2, zeroR, ty111, Value.cells]; done), fun h => by cases h⟩
  zlen := rfl
  kind := ⟨_, Try.underlying111, ⟨_, _, _, rfl⟩⟩
  flds := fun fields h => by rw [Try.underlying111] at h; cases h
  elt := fun n e h => by rw [Try.underlying111] at h; cases h
  cmp := fun h => by cases h
  zone := fun info cs h1 h2 => by rw [show Try.prog.info? 111 = some Try.t111 from by kernel_rfl] at h1; obtain rfl := Option.some.inj h1; rw [show Try.t111.zero = some (.nilFunc) from by kernel_rfl] at h2; cases h2
  meth := fun p hp => by cases hp
def ty112 : TI := { k := .int .i64, size := 1, bytes := 8, zero := [.t (.int .i64 0)], cmp := false }
theorem ok112 : TIOk Try.prog 112 ty112 where
  info := ⟨Try.t112, .int .i64 0, by kernel_rfl, by kernel_rfl, by kernel_rfl, by kernel_rfl, by first | trivial | (simp [All2, zeroR, ty112, Value.cells]; done), fun h => by cases h⟩
  zlen := rfl
  kind := ⟨_, Try.underlying112, rfl⟩
  flds := fun fields h => by rw [Try.underlying112] at h; cases h
  elt := fun n e h => by rw [Try.underlying112] at h; cases h
  cmp := fun h => by cases h
  zone := fun info cs h1 h2 => by rw [show Try.prog.info? 112 = some Try.t112 from by kernel_rfl] at h1; obtain rfl := Option.some.inj h1; rw [show Try.t112.zero = some (.int .i64 0) from by kernel_rfl] at h2; cases h2
  meth := fun p hp => by cases hp
def ty114 : TI := { k := .func, size := 1, bytes := 8, zero := [.t .nilf], cmp := false }
theorem ok114 : TIOk Try.prog 114 ty114 where
  info := ⟨Try.t114, .nilFunc, by kernel_rfl, by kernel_rfl, by kernel_rfl, by kernel_rfl, by first | trivial | (simp [All2, zeroR, ty114, Value.cells]; done), fun h => by cases h⟩
  zlen := rfl
  kind := ⟨_, Try.underlying114, ⟨_, _, _, rfl⟩⟩
  flds := fun fields h => by rw [Try.underlying114] at h; cases h
  elt := fun n e h => by rw [Try.underlying114] at h; cases h
  cmp := fun h => by cases h
  zone := fun info cs h1 h2 => by rw [show Try.prog.info? 114 = some Try.t114 from by kernel_rfl] at h1; obtain rfl := Option.some.inj h1; rw [show Try.t114.zero = some (.nilFunc) from by kernel_rfl] at h2; cases h2
  meth := fun p hp => by cases hp
def ty115 : TI := { k := .func, size := 1, bytes := 8, zero := [.t .nilf], cmp := false }
theorem ok115 : TIOk Try.prog 115 ty115 where
  info := ⟨Try.t115, .nilFunc, by kernel_rfl, by kernel_rfl, by kernel_rfl, by kernel_rfl, by first | trivial | (simp [All2, zeroR, ty115, Value.cells]; done), fun h => by cases h⟩
  zlen := rfl
  kind := ⟨_, Try.underlying115, ⟨_, _, _, rfl⟩⟩
  flds := fun fields h => by rw [Try.underlying115] at h; cases h
  elt := fun n e h => by rw [Try.underlying115] at h; cases h
  cmp := fun h => by cases h
  zone := fun info cs h1 h2 => by rw [show Try.prog.info? 115 = some Try.t115 from by kernel_rfl] at h1; obtain rfl := Option.some.inj h1; rw [show Try.t115.zero = some (.nilFunc) from by kernel_rfl] at h2; cases h2
  meth := fun p hp => by cases hp
def ty116 : TI := { k := .func, size := 1, bytes := 8, zero := [.t .nilf], cmp := false }
theorem ok116 : TIOk Try.prog 116 ty116 where
  info := ⟨Try.t116, .nilFunc, by kernel_rfl, by kernel_rfl, by kernel_rfl, by kernel_rfl, by first | trivial | (simp [All2, zeroR, ty116, Value.cells]; done), fun h => by cases h⟩
  zlen := rfl
  kind := ⟨_, Try.underlying116, ⟨_, _, _, rfl⟩⟩
  flds := fun fields h => by rw [Try.underlying116] at h; cases h
  elt := fun n e h => by rw [Try.underlying116] at h; cases h
  cmp := fun h => by cases h
  zone := fun info cs h1 h2 => by rw [show Try.prog.info? 116 = some Try.t116 from by kernel_rfl] at h1; obtain rfl := Option.some.inj h1; rw [show Try.t116.zero = some (.nilFunc) from by kernel_rfl] at h2; cases h2
  meth := fun p hp => by cases hp
def ty117 : TI := { k := .func, size := 1, bytes := 8, zero := [.t .nilf], cmp := false }
theorem ok117 : TIOk Try.prog 117 ty117 where
  info := ⟨Try.t117, .nilFunc, by kernel_rfl, by kernel_rfl, by kernel_rfl, by kernel_rfl, by first | trivial | (simp [All2, zeroR, ty117, Value.cells]; done), fun h => by cases h⟩
  zlen := rfl
  kind := ⟨_, Try.underlying117, ⟨_, _, _, rfl⟩⟩
  flds := fun fields h => by rw [Try.underlying117] at h; cases h
  elt := fun n e h => by rw [Try.underlying117] at h; cases h
  cmp := fun h => by cases h
  zone := fun info cs h1 h2 => by rw [show Try.prog.info? 117 = some Try.t117 from by kernel_rfl] at h1; obtain rfl := Option.some.inj h1; rw [show Try.t117.zero = some (.nilFunc) from by kernel_rfl] at h2; cases h2
  meth := fun p hp => by cases hp
def ty118 : TI := { k := .func, size := 1, bytes := 8, zero := [.t .nilf], cmp := false }
theorem ok118 : TIOk Try.prog 118 ty118 where
  info := ⟨Try.t118, .nilFunc, by kernel_rfl, by kernel_rfl, by kernel_rfl, by kernel_rfl, by first | trivial | (simp [All2, zeroR, ty118, Value.cells]; done), fun h => by cases h⟩
  zlen := rfl
  kind := ⟨_, Try.underlying118, ⟨_, _, _, rfl⟩⟩
  flds := fun fields h => by rw [Try.underlying118] at h; cases h
  elt := fun n e h => by rw [Try.underlying118] at h; cases h
  cmp := fun h => by cases h
  zone := fun info cs h1 h2 => by rw [show Try.prog.info? 118 = some Try.t118 from by kernel_rfl] at h1; obtain rfl := Option.some.inj h1; rw [show Try.t118.zero = some (.nilFunc) from by kernel_rfl] at h2; cases h2
  meth := fun p hp => by cases hp
def ty119 : TI := { k := .int .u32, size := 1, bytes := 4, zero := [.t (.int .u32 0)], cmp := false }
theorem ok119 : TIOk Try.prog 119 ty119 where
  info := ⟨Try.t119, .int .u32 0, by kernel_rfl, by kernel_rfl, by kernel_rfl, by kernel_rfl, by first | trivial | (simp [All2, zeroR, ty119, Value.cells]; done), fun h => by cases h⟩
  zlen := rfl
  kind := ⟨_, Try.underlying119, rfl⟩
  flds := fun fields h => by rw [Try.underlying119] at h; cases h
  elt := fun n e h => by rw [Try.underlying119] at h; cases h
  cmp := fun h => by cases h
  zone := fun info cs h1 h2 => by rw [show Try.prog.info? 119 = some Try.t119 from by kernel_rfl] at h1; obtain rfl := Option.some.inj h1; rw [show Try.t119.zero = some (.int .u32 0) from by kernel_rfl] at h2; cases h2
  meth := fun p hp => by cases hp
def ty120 : TI := { k := .func, size := 1, bytes := 8, zero := [.t .nilf], cmp := false }
theorem ok120 : TIOk Try.prog 120 ty120 where
  info := ⟨Try.t120, .nilFunc, by kernel_rfl, by kernel_rfl, by kernel_rfl, by kernel_rfl, by first | trivial | (simp [All2, zeroR, ty120, Value.cells]; done), fun h => by cases h⟩
  zlen := rfl
  kind := ⟨_, Try.underlying120, ⟨_, _, _, rfl⟩⟩
  flds := fun fields h => by rw [Try.underlying120] at h; cases h
  elt := fun n e h => by rw [Try.underlying120] at h; cases h
  cmp := fun h => by cases h
  zone := fun info cs h1 h2 => by rw [show Try.prog.info? 120 = some Try.t120 from by kernel_rfl] at h1; obtain rfl := Option.some.inj h1; rw [show Try.t120.zero = some (.nilFunc) from by kernel_rfl] at h2; cases h2
  meth := fun p hp => by cases hp
def ty121 : TI := { k := .func, size := 1, bytes := 8, zero := [.t .nilf], cmp := false }
theorem ok121 : TIOk Try.prog 121 ty121 where
  info := ⟨Try.t121, .nilFunc, by kernel_rfl, by kernel_rfl, by kernel_rfl, by kernel_rfl, by first | trivial | (simp [All2, zeroR, ty121, Value.cells]; done), fun h => by cases h⟩
  zlen := rfl
  kind := ⟨_, Try.underlying121, ⟨_, _, _, rfl⟩⟩
  flds := fun fields h => by rw [Try.underlying121] at h; cases h
  elt := fun n e h => by rw [Try.underlying121] at h; cases h
  cmp := fun h => by cases h
  zone := fun info cs h1 h2 => by rw [show Try.prog.info? 121 = some Try.t121 from by kernel_rfl] at h1; obtain rfl := Option.some.inj h1; rw [show Try.t121.zero = some (.nilFunc) from by kernel_rfl] at h2; cases h2
  meth := fun p hp => by cases hp
def ty122 : TI := { k := .func, size := 1, bytes := 8, zero := [.t .nilf], cmp := false }
theorem ok122 : TIOk Try.prog 122 ty122 where
  info := ⟨Try.t122, .nilFunc, by kernel_rfl, by kernel_rfl, by kernel_rfl, by kernel_rfl, by first | trivial | (simp [All2, zeroR, ty122, Value.cells]; done), fun h => by cases h⟩
  zlen := rfl
  kind := ⟨_, Try.underlying122, ⟨_, _, _, rfl⟩⟩
  flds := fun fields h => by rw [Try.underlying122] at h; cases h
  elt := fun n e h => by rw [Try.underlying122] at h; cases h
  cmp := fun h => by cases h
  zone := fun info cs h1 h2 => by rw [show Try.prog.info? 122 = some Try.t122 from by kernel_rfl] at h1; obtain rfl := Option.some.inj h1; rw [show Try.t122.zero = some (.nilFunc) from by kernel_rfl] at h2; cases h2
  meth := fun p hp => by cases hp
def ty123 : TI := { k := .int .u64, size := 1, bytes := 8, zero := [.t (.int .u64 0)], cmp := false }
theorem ok123 : TIOk Try.prog 123 ty123 where
  info := ⟨Try.t123, .int .u64 0, by kernel_rfl, by kernel_rfl, by kernel_rfl, by kernel_rfl, by first | trivial | (simp [All2, zeroR, ty123, Value.cells]; done), fun h => by cases h⟩
  zlen := rfl
  kind := ⟨_, Try.underlying123, rfl⟩
  flds := fun fields h => by rw [Try.underlying123] at h; cases h
  elt := fun n e h => by rw [Try.underlying123] at h; cases h
  cmp := fun h => by cases h
  zone := fun info cs h1 h2 => by rw [show Try.prog.info? 123 = some Try.t123 from by kernel_rfl] at h1; obtain rfl := Option.some.inj h1; rw [show Try.t123.zero = some (.int .u64 0) from by kernel_rfl] at h2; cases h2
  meth := fun p hp => by cases hp
def ty124 : TI := { k := .func, size := 1, bytes := 8, zero := [.t .nilf], cmp := false }
theorem ok124 : TIOk Try.prog 124 ty124 where
  info := ⟨Try.t124, .nilFunc, by kernel_rfl, by kernel_rfl, by kernel_rfl, by kernel_rfl, by first | trivial | (simp [All2, zeroR, ty124, Value.cells]; done), fun h => by cases h⟩
  zlen := rfl
  kind := ⟨_, Try.underlying124, ⟨_, _, _, rfl⟩⟩
  flds := fun fields h => by rw [Try.underlying124] at h; cases h
  elt := fun n e h => by rw [Try.underlying124] at h; cases h
  cmp := fun h => by cases h
  zone := fun info cs h1 h2 => by rw [show Try.prog.info? 124 = some Try.t124 from by kernel_rfl] at h1; obtain rfl := Option.some.inj h1; rw [show Try.t124.zero = some (.nilFunc) from by kernel_rfl] at h2; cases h2
  meth := fun p hp => by cases hp
def ty125 : TI := { k := .func, size := 1, bytes := 8, zero := [.t .nilf], cmp := false }
theorem ok125 : TIOk Try.prog 125 ty125 where
  info := ⟨Try.t125, .nilFunc, by kernel_rfl, by kernel_rfl, by kernel_rfl, by kernel_rfl, by first | trivial | (simp [All2, zeroR, ty125, Value.cells]; done), fun h => by cases h⟩
  zlen := rfl
  kind := ⟨_, Try.underlying125, ⟨_, _, _, rfl⟩⟩
  flds := fun fields h => by rw [Try.underlying125] at h; cases h
  elt := fun n e h => by rw [Try.underlying125] at h; cases h
  cmp := fun h => by cases h
  zone := fun info cs h1 h2 => by rw [show Try.prog.info? 125 = some Try.t125 from by kernel_rfl] at h1; obtain rfl := Option.some.inj h1; rw [show Try.t125.zero = some (.nilFunc) from by kernel_rfl] at h2; cases h2
  meth := fun p hp => by cases hp
def ty126 : TI := { k := .func, size := 1, bytes := 8, zero := [.t .nilf], cmp := false }
theorem ok126 : TIOk Try.prog 126 ty126 where
  info := ⟨Try.t126, .nilFunc, by kernel_rfl, by kernel_rfl, by kernel_rfl, by kernel_rfl, by first | trivial | (simp [All2, zeroR, ty126, Value.cells]; done), fun h => by cases h⟩
  zlen := rfl
  kind := ⟨_, Try.underlying126, ⟨_, _, _, rfl⟩⟩
  flds := fun fields h => by rw [Try.underlying126] at h; cases h
  elt := fun n e h => by rw [Try.underlying126] at h; cases h
  cmp := fun h => by cases h
  zone := fun info cs h1 h2 => by rw [show Try.prog.info? 126 = some Try.t126 from by kernel_rfl] at h1; obtain rfl := Option.some.inj h1; rw [show Try.t126.zero = some (.nilFunc) from by kernel_rfl] at h2; cases h2
  meth := fun p hp => by cases hp
def ty127 : TI := { k := .ptr 3, size := 1, bytes := 8, zero := [.t .nilp], cmp := false }
theorem ok127 : TIOk Try.prog 127 ty127 where
  info := ⟨Try.t127, .pointer none, by kernel_rfl, by kernel_rfl, by kernel_rfl, by kernel_rfl, by first | trivial | (simp [All2, zeroR, ty127, Value.cells]; done), fun h => by cases h⟩
  zlen := rfl
  kind := ⟨_, Try.underlying127, rfl⟩
  flds := fun fields h => by rw [Try.underlying127] at h; cases h
  elt := fun n e h => by rw [Try.underlying127] at h; cases h
  cmp := fun h => by cases h
  zone := fun info cs h1 h2 => by rw [show Try.prog.info? 127 = some Try.t127 from by kernel_rfl] at h1; obtain rfl := Option.some.inj h1; rw [show Try.t127.zero = some (.pointer none) from by kernel_rfl] at h2; cases h2
  meth := fun p hp => by cases hp
def ty128 : TI := { k := .func, size := 1, bytes := 8, zero := [.t .nilf], cmp := false }
theorem ok128 : TIOk Try.prog 128 ty128 where
  info := ⟨Try.t128, .nilFunc, by kernel_rfl, by kernel_rfl, by kernel_rfl, by kernel_rfl, by first | trivial | (simp [All2, zeroR, ty128, Value.cells]; done), fun h => by cases h⟩
  zlen := rfl
  kind := ⟨_, Try.underlying128, ⟨_, _, _, rfl⟩⟩
  flds := fun fields h => by rw [Try.underlying128] at h; cases h
  elt := fun n e h => by rw [Try.underlying128] at h; cases h
  cmp := fun h => by cases h
  zone := fun info cs h1 h2 => by rw [show Try.prog.info? 128 = some Try.t128 from by kernel_rfl] at h1; obtain rfl := Option.some.inj h1; rw [show Try.t128.zero = some (.nilFunc) from by kernel_rfl] at h2; cases h2
  meth := fun p hp => by cases hp
def ty129 : TI := { k := .ptr 123, size := 1, bytes := 8, zero := [.t .nilp], cmp := false }
theorem ok129 : TIOk Try.prog 129 ty129 where
  info := ⟨Try.t129, .pointer none, by kernel_rfl, by kernel_rfl, by kernel_rfl, by kernel_rfl, by first | trivial | (simp [All2, zeroR, ty129, Value.cells]; done), fun h => by cases h⟩
  zlen := rfl
  kind := ⟨_, Try.underlying129, rfl⟩
  flds := fun fields h => by rw [Try.underlying129] at h; cases h
  elt := fun n e h => by rw [Try.underlying129] at h; cases h
  cmp := fun h => by cases h
  zone := fun info cs h1 h2 => by rw [show Try.prog.info? 129 = some Try.t129 from by kernel_rfl] at h1; obtain rfl := Option.some.inj h1; rw [show Try.t129.zero = some (.pointer none) from by kernel_rfl] at h2; cases h2
  meth := fun p hp => by cases hp
def ty130 : TI := { k := .func, size := 1, bytes := 8, zero := [.t .nilf], cmp := false }
theorem ok130 : TIOk Try.prog 130 ty130 where
  info := ⟨Try.t130, .nilFunc, by kernel_rfl, by kernel_rfl, by kernel_rfl, by kernel_rfl, by first | trivial | (simp [All2, zeroR, ty130, Value.cells]; done), fun h => by cases h⟩
  zlen := rfl
  kind := ⟨_, Try.underlying130, ⟨_, _, _, rfl⟩⟩
  flds := fun fields h => by rw [Try.underlying130] at h; cases h
  elt := fun n e h => by rw [Try.underlying130] at h; cases h
  cmp := fun h => by cases h
  zone := fun info cs h1 h2 => by rw [show Try.prog.info? 130 = some Try.t130 from by kernel_rfl] at h1; obtain rfl := Option.some.inj h1; rw [show Try.t130.zero = some (.nilFunc) from by kernel_rfl] at h2; cases h2
  meth := fun p hp => by cases hp
def ty131 : TI := { k := .func, size := 1, bytes := 8, zero := [.t .nilf], cmp := false }
theorem ok131 : TIOk Try.prog 131 ty131 where
  info := ⟨Try.t131, .nilFunc, by kernel_rfl, by kernel_rfl, by kernel_rfl, by kernel_rfl, by first | trivial | (simp [All2, zeroR, ty131, Value.cells]; done), fun h => by cases h⟩
  zlen := rfl
  kind := ⟨_, Try.underlying131, ⟨_, _, _, rfl⟩⟩
  flds := fun fields h => by rw [Try.underlying131] at h; cases h
  elt := fun n e h => by rw [Try.underlying131] at h; cases h
  cmp := fun h => by cases h
  zone := fun info cs h1 h2 => by rw [show Try.prog.info? 131 = some Try.t131 from by kernel_rfl] at h1; obtain rfl := Option.some.inj h1; rw [show Try.t131.zero = some (.nilFunc) from by kernel_rfl] at h2; cases h2
  meth := fun p hp => by cases hp
def ty134 : TI := { k := .arr 0 16, size := 0, bytes := 0, zero := [], cmp := false }
theorem ok134 : TIOk Try.prog 134 ty134 where
  info := ⟨Try.t134, .agg #[], by kernel_rfl, by kernel_rfl, by kernel_rfl, by kernel_rfl, by first | trivial | (simp [All2, zeroR, ty134, Value.cells]; done), fun _ => ⟨_, rfl⟩⟩
  zlen := rfl
  kind := ⟨_, Try.underlying134, rfl⟩
  flds := fun fields h => by rw [Try.underlying134] at h; cases h
  elt := fun n e h => by rw [Try.underlying134] at h; cases h; kernel_rfl
  cmp := fun h => by cases h
  zone := fun info cs h1 h2 => rfl
  meth := fun p hp => by cases hp
def ty139 : TI := { k := .func, size := 1, bytes := 8, zero := [.t .nilf], cmp := false }
theorem ok139 : TIOk Try.prog 139 ty139 where
  info := ⟨Try.t139, .nilFunc, by kernel_rfl, by kernel_rfl, by kernel_rfl, by kernel_rfl, by first | trivial | (simp [All2, zeroR, ty139, Value.cells]; done), fun h => by cases h⟩
  zlen := rfl
  kind := ⟨_, Try.underlying139, ⟨_, _, _, rfl⟩⟩
  flds := fun fields h => by rw [Try.underlying139] at h; cases h
  elt := fun n e h => by rw [Try.underlying139] at h; cases h
  cmp := fun h => by cases h
  zone := fun info cs h1 h2 => by rw [show Try.prog.info? 139 = some Try.t139 from by kernel_rfl] at h1; obtain rfl := Option.some.inj h1; rw [show Try.t139.zero = some (.nilFunc) from by kernel_rfl] at h2; cases h2
  meth := fun p hp => by cases hp
def ty140 : TI := { k := .ptr 5, size := 1, bytes := 8, zero := [.t .nilp], cmp := false }
theorem ok140 : TIOk Try.prog 140 ty140 where
  info := ⟨Try.t140, .pointer none, by kernel_rfl, by kernel_rfl, by kernel_rfl, by kernel_rfl, by first | trivial | (simp [All2, zeroR, ty140, Value.cells]; done), fun h => by cases h⟩
  zlen := rfl
  kind := ⟨_, Try.underlying140, rfl⟩
  flds := fun fields h => by rw [Try.underlying140] at h; cases h
  elt := fun n e h => by rw [Try.underlying140] at h; cases h
  cmp := fun h => by cases h
  zone := fun info cs h1 h2 => by rw [show Try.prog.info? 140 = some Try.t140 from by kernel_rfl] at h1; obtain rfl := Option.some.inj h1; rw [show Try.t140.zero = some (.pointer none) from by kernel_rfl] at h2; cases h2
  meth := fun p hp => by cases hp
def T : TypeId → Option TI
  | 1 => some ty1
  | 2 => some ty2
  | 3 => some ty3
  | 4 => some ty4
  | 5 => some ty5
  | 9 => some ty9
  | 12 => some ty12
  | 19 => some ty19
  | 20 => some ty20
  | 21 => some ty21
  | 23 => some ty23
  | 24 => some ty24
  | 25 => some ty25
  | 26 => some ty26
  | 27 => some ty27
  | 28 => some ty28
  | 29 => some ty29
  | 30 => some ty30
  | 31 => some ty31
  | 32 => some ty32
  | 33 => some ty33
  | 34 => some ty34
  | 35 => some ty35
  | 36 => some ty36
  | 37 => some ty37
  | 38 => some ty38
  | 40 => some ty40
  | 41 => some ty41
  | 43 => some ty43
  | 44 => some ty44
  | 45 => some ty45
  | 46 => some ty46
  | 47 => some ty47
  | 48 => some ty48
  | 49 => some ty49
  | 51 => some ty51
  | 53 => some ty53
  | 54 => some ty54
  | 55 => some ty55
  | 56 => some ty56
  | 57 => some ty57
  | 58 => some ty58
  | 59 => some ty59
  | 61 => some ty61
  | 62 => some ty62
  | 63 => some ty63
  | 64 => some ty64
  | 65 => some ty65
  | 66 => some ty66
  | 67 => some ty67
  | 68 => some ty68
  | 70 => some ty70
  | 72 => some ty72
  | 73 => some ty73
  | 74 => some ty74
  | 75 => some ty75
  | 76 => some ty76
  | 77 => some ty77
  | 78 => some ty78
  | 79 => some ty79
  | 80 => some ty80
  | 81 => some ty81
  | 82 => some ty82
  | 83 => some ty83
  | 84 => some ty84
  | 86 => some ty86
  | 88 => some ty88
  | 90 => some ty90
  | 91 => some ty91
  | 93 => some ty93
  | 94 => some ty94
  | 95 => some ty95
  | 96 => some ty96
  | 97 => some ty97
  | 98 => some ty98
  | 99 => some ty99
  | 100 => some ty100
  | 101 => some ty101
  | 102 => some ty102
  | 103 => some ty103
  | 104 => some ty104
  | 105 => some ty105
  | 106 => some ty106
  | 107 => some ty107
  | 109 => some ty109
  | 110 => some ty110
  | 111 => some ty111
  | 112 => some ty112
  | 114 => some ty114
  | 115 => some ty115
  | 116 => some ty116
  | 117 => some ty117
  | 118 => some ty118
  | 119 => some ty119
  | 120 => some ty120
  | 121 => some ty121
  | 122 => some ty122
  | 123 => some ty123
  | 124 => some ty124
  | 125 => some ty125
  | 126 => some ty126
  | 127 => some ty127
  | 128 => some ty128
  | 129 => some ty129
  | 130 => some ty130
  | 131 => some ty131
  | 134 => some ty134
  | 139 => some ty139
  | 140 => some ty140
  | _ => none
theorem tOk : TOk Try.prog T := by
  intro t ti h
  unfold T at h
  split at h
  · cases h; exact ok1
  · cases h; exact ok2
  · cases h; exact ok3
  · cases h; exact ok4
  · cases h; exact ok5
  · cases h; exact ok9
  · cases h; exact ok12
  · cases h; exact ok19
  · cases h; exact ok20
  · cases h; exact ok21
  · cases h; exact ok23
  · cases h; exact ok24
  · cases h; exact ok25
  · cases h; exact ok26
  · cases h; exact ok27
  · cases h; exact ok28
  · cases h; exact ok29
  · cases h; exact ok30
  · cases h; exact ok31
  · cases h; exact ok32
  · cases h; exact ok33
  · cases h; exact ok34
  · cases h; exact ok35
  · cases h; exact ok36
  · cases h; exact ok37
  · cases h; exact ok38
  · cases h; exact ok40
  · cases h; exact ok41
  · cases h; exact ok43
  · cases h; exact ok44
  · cases h; exact ok45
  · cases h; exact ok46
  · cases h; exact ok47
  · cases h; exact ok48
  · cases h; exact ok49
  · cases h; exact ok51
  · cases h; exact ok53
  · cases h; exact ok54
  · cases h; exact ok55
  · cases h; exact ok56
  · cases h; exact ok57
  · cases h; exact ok58
  · cases h; exact ok59
  · cases h; exact ok61
  · cases h; exact ok62
  · cases h; exact ok63
  · cases h; exact ok64
  · cases h; exact ok65
  · cases h; exact ok66
  · cases h; exact ok67
  · cases h; exact ok68
  · cases h; exact ok70
  · cases h; exact ok72
  · cases h; exact ok73
  · cases h; exact ok74
  · cases h; exact ok75
  · cases h; exact ok76
  · cases h; exact ok77
  · cases h; exact ok78
  · cases h; exact ok79
  · cases h; exact ok80
  · cases h; exact ok81
  · cases h; exact ok82
  · cases h; exact ok83
  · cases h; exact ok84
  · cases h; exact ok86
  · cases h; exact ok88
  · cases h; exact ok90
  · cases h; exact ok91
  · cases h; exact ok93
  · cases h; exact ok94
  · cases h; exact ok95
  · cases h; exact ok96
  · cases h; exact ok97
  · cases h; exact ok98
  · cases h; exact ok99
  · cases h; exact ok100
  · cases h; exact ok101
  · cases h; exact ok102
  · cases h; exact ok103
  · cases h; exact ok104
  · cases h; exact ok105
  · cases h; exact ok106
  · cases h; exact ok107
  · cases h; exact ok109
  · cases h; exact ok110
  · cases h; exact ok111
  · cases h; exact ok112
  · cases h; exact ok114
  · cases h; exact ok115
  · cases h; exact ok116
  · cases h; exact ok117
  · cases h; exact ok118
  · cases h; exact ok119
  · cases h; exact ok120
  · cases h; exact ok121
  · cases h; exact ok122
  · cases h; exact ok123
  · cases h; exact ok124
  · cases h; exact ok125
  · cases h; exact ok126
  · cases h; exact ok127
  · cases h; exact ok128
  · cases h; exact ok129
  · cases h; exact ok130
  · cases h; exact ok131
  · cases h; exact ok134
  · cases h; exact ok139
  · cases h; exact ok140
  · cases h
theorem T_1 : T 1 = some ty1 := rfl
theorem T_2 : T 2 = some ty2 := rfl
theorem T_3 : T 3 = some ty3 := rfl
theorem T_4 : T 4 = some ty4 := rfl
theorem T_5 : T 5 = some ty5 := rfl
theorem T_9 : T 9 = some ty9 := rfl
theorem T_12 : T 12 = some ty12 := rfl
theorem T_19 : T 19 = some ty19 := rfl
theorem T_20 : T 20 = some ty20 := rfl
theorem T_21 : T 21 = some ty21 := rfl
theorem T_23 : T 23 = some ty23 := rfl
theorem T_24 : T 24 = some ty24 := rfl
theorem T_25 : T 25 = some ty25 := rfl
theorem T_26 : T 26 = some ty26 := rfl
theorem T_27 : T 27 = some ty27 := rfl
theorem T_28 : T 28 = some ty28 := rfl
theorem T_29 : T 29 = some ty29 := rfl
theorem T_30 : T 30 = some ty30 := rfl
theorem T_31 : T 31 = some ty31 := rfl
theorem T_32 : T 32 = some ty32 := rfl
theorem T_33 : T 33 = some ty33 := rfl
theorem T_34 : T 34 = some ty34 := rfl
theorem T_35 : T 35 = some ty35 := rfl
theorem T_36 : T 36 = some ty36 := rfl
theorem T_37 : T 37 = some ty37 := rfl
theorem T_38 : T 38 = some ty38 := rfl
theorem T_40 : T 40 = some ty40 := rfl
theorem T_41 : T 41 = some ty41 := rfl
theorem T_43 : T 43 = some ty43 := rfl
theorem T_44 : T 44 = some ty44 := rfl
theorem T_45 : T 45 = some ty45 := rfl
theorem T_46 : T 46 = some ty46 := rfl
theorem T_47 : T 47 = some ty47 := rfl
theorem T_48 : T 48 = some ty48 := rfl
theorem T_49 : T 49 = some ty49 := rfl
theorem T_51 : T 51 = some ty51 := rfl
theorem T_53 : T 53 = some ty53 := rfl
theorem T_54 : T 54 = some ty54 := rfl
theorem T_55 : T 55 = some ty55 := rfl
theorem T_56 : T 56 = some ty56 := rfl
theorem T_57 : T 57 = some ty57 := rfl
theorem T_58 : T 58 = some ty58 := rfl
theorem T_59 : T 59 = some ty59 := rfl
theorem T_61 : T 61 = some ty61 := rfl
theorem T_62 : T 62 = some ty62 := rfl
theorem T_63 : T 63 = some ty63 := rfl
theorem T_64 : T 64 = some ty64 := rfl
theorem T_65 : T 65 = some ty65 := rfl
theorem T_66 : T 66 = some ty66 := rfl
theorem T_67 : T 67 = some ty67 := rfl
theorem T_68 : T 68 = some ty68 := rfl
theorem T_70 : T 70 = some ty70 := rfl
theorem T_72 : T 72 = some ty72 := rfl
theorem T_73 : T 73 = some ty73 := rfl
theorem T_74 : T 74 = some ty74 := rfl
theorem T_75 : T 75 = some ty75 := rfl
theorem T_76 : T 76 = some ty76 := rfl
theorem T_77 : T 77 = some ty77 := rfl
theorem T_78 : T 78 = some ty78 := rfl
theorem T_79 : T 79 = some ty79 := rfl
theorem T_80 : T 80 = some ty80 := rfl
theorem T_81 : T 81 = some ty81 := rfl
theorem T_82 : T 82 = some ty82 := rfl
theorem T_83 : T 83 = some ty83 := rfl
theorem T_84 : T 84 = some ty84 := rfl
theorem T_86 : T 86 = some ty86 := rfl
theorem T_88 : T 88 = some ty88 := rfl
theorem T_90 : T 90 = some ty90 := rfl
theorem T_91 : T 91 = some ty91 := rfl
theorem T_93 : T 93 = some ty93 := rfl
theorem T_94 : T 94 = some ty94 := rfl
theorem T_95 : T 95 = some ty95 := rfl
theorem T_96 : T 96 = some ty96 := rfl
theorem T_97 : T 97 = some ty97 := rfl
theorem T_98 : T 98 = some ty98 := rfl
theorem T_99 : T 99 = some ty99 := rfl
theorem T_100 : T 100 = some ty100 := rfl
theorem T_101 : T 101 = some ty101 := rfl
theorem T_102 : T 102 = some ty102 := rfl
theorem T_103 : T 103 = some ty103 := rfl
theorem T_104 : T 104 = some ty104 := rfl
theorem T_105 : T 105 = some ty105 := rfl
theorem T_106 : T 106 = some ty106 := rfl
theorem T_107 : T 107 = some ty107 := rfl
theorem T_109 : T 109 = some ty109 := rfl
theorem T_110 : T 110 = some ty110 := rfl
theorem T_111 : T 111 = some ty111 := rfl
theorem T_112 : T 112 = some ty112 := rfl
theorem T_114 : T 114 = some ty114 := rfl
theorem T_115 : T 115 = some ty115 := rfl
theorem T_116 : T 116 = some ty116 := rfl
theorem T_117 : T 117 = some ty117 := rfl
theorem T_118 : T 118 = some ty118 := rfl
theorem T_119 : T 119 = some ty119 := rfl
theorem T_120 : T 120 = some ty120 := rfl
theorem T_121 : T 121 = some ty121 := rfl
theorem T_122 : T 122 = some ty122 := rfl
theorem T_123 : T 123 = some ty123 := rfl
theorem T_124 : T 124 = some ty124 := rfl
theorem T_125 : T 125 = some ty125 := rfl
theorem T_126 : T 126 = some ty126 := rfl
theorem T_127 : T 127 = some ty127 := rfl
theorem T_128 : T 128 = some ty128 := rfl
theorem T_129 : T 129 = some ty129 := rfl
theorem T_130 : T 130 = some ty130 := rfl
theorem T_131 : T 131 = some ty131 := rfl
theorem T_134 : T 134 = some ty134 := rfl
theorem T_139 : T 139 = some ty139 := rfl
theorem T_140 : T 140 = some ty140 := rfl
theorem mixed : Try.prog.follows .mixedOrders = true := by kernel_rfl
/-- All that is a contract. -/
def Ev : Env := fun f a h r h' => Entered Try.prog f ∧ Spec Try.prog f a h r h'
theorem evOk : EnvOk Try.prog Ev := fun _ _ _ _ _ h => h
end Go.Proofs.Ytgmjgognpabmdaa.Fx
