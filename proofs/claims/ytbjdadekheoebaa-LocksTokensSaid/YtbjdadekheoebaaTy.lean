/- Facts of the table of types. -/
import Derived.Test.YtbjdadekheoebaaLockM
import Derived.Test.YtbjdadekheoebaaShelf
import Derived.Test.YtbjdadekheoebaaProg
set_option linter.all false
set_option linter.unusedVariables false
set_option linter.unusedSimpArgs false
set_option linter.unusedSectionVars false
set_option linter.unnecessarySimpa false
namespace Go.Proofs.Ytbjdadekheoebaa
open Go.RowKit Go.Lib
theorem T_a197 : Agg Try.prog 197 3 := Agg.of (by kernel_rfl)
theorem T_a24 : Agg Try.prog 24 5 := Agg.of (by kernel_rfl)
theorem T_a56 : Agg Try.prog 56 5 := Agg.of (by kernel_rfl)
theorem T_a82 : Agg Try.prog 82 7 := Agg.of (by kernel_rfl)
theorem T_e156 : Elem Try.prog 156 9 1 16 := Elem.of (by kernel_rfl)
theorem T_e200 : Elem Try.prog 200 197 3 24 := Elem.of (by kernel_rfl)
theorem T_e296 : Elem Try.prog 296 85 1 24 := Elem.of (by kernel_rfl)
theorem T_e72 : Elem Try.prog 72 3 1 8 := Elem.of (by kernel_rfl)
theorem T_e85 : Elem Try.prog 85 56 5 40 := Elem.of (by kernel_rfl)
theorem T_f195_0 : FieldOf Try.prog 195 0 0 := FieldOf.of (by kernel_rfl)
theorem T_f195_1 : FieldOf Try.prog 195 1 1 := FieldOf.of (by kernel_rfl)
theorem T_f197_0 : FieldOf Try.prog 197 0 0 := FieldOf.of (by kernel_rfl)
theorem T_f197_1 : FieldOf Try.prog 197 1 1 := FieldOf.of (by kernel_rfl)
theorem T_f197_2 : FieldOf Try.prog 197 2 2 := FieldOf.of (by kernel_rfl)
theorem T_f202_0 : FieldOf Try.prog 202 0 0 := FieldOf.of (by kernel_rfl)
theorem T_f202_1 : FieldOf Try.prog 202 1 1 := FieldOf.of (by kernel_rfl)
theorem T_f202_2 : FieldOf Try.prog 202 2 2 := FieldOf.of (by kernel_rfl)
theorem T_f24_0 : FieldOf Try.prog 24 0 0 := FieldOf.of (by kernel_rfl)
theorem T_f24_1 : FieldOf Try.prog 24 1 1 := FieldOf.of (by kernel_rfl)
theorem T_f24_2 : FieldOf Try.prog 24 2 2 := FieldOf.of (by kernel_rfl)
theorem T_f24_3 : FieldOf Try.prog 24 3 3 := FieldOf.of (by kernel_rfl)
theorem T_f56_2 : FieldOf Try.prog 56 2 2 := FieldOf.of (by kernel_rfl)
theorem T_f56_3 : FieldOf Try.prog 56 3 3 := FieldOf.of (by kernel_rfl)
theorem T_f82_0 : FieldOf Try.prog 82 0 0 := FieldOf.of (by kernel_rfl)
theorem T_f82_1 : FieldOf Try.prog 82 1 1 := FieldOf.of (by kernel_rfl)
theorem T_mixed : Try.prog.follows .mixedOrders = true := by kernel_rfl
theorem T_o193 : One Try.prog 193 := One.of (by kernel_rfl)
theorem T_o200 : One Try.prog 200 := One.of (by kernel_rfl)
theorem T_o3 : One Try.prog 3 := One.of (by kernel_rfl)
theorem T_o4 : One Try.prog 4 := One.of (by kernel_rfl)
theorem T_o53 : One Try.prog 53 := One.of (by kernel_rfl)
theorem T_o54 : One Try.prog 54 := One.of (by kernel_rfl)
theorem T_o72 : One Try.prog 72 := One.of (by kernel_rfl)
theorem T_o85 : One Try.prog 85 := One.of (by kernel_rfl)
theorem T_o9 : One Try.prog 9 := One.of (by kernel_rfl)
theorem T_p195 : Places Try.prog 195 [(0, 1), (1, 1)] := Places.of (by kernel_rfl)
theorem T_p197 : Places Try.prog 197 [(0, 1), (1, 1), (2, 1)] := Places.of (by kernel_rfl)
theorem T_p202 : Places Try.prog 202 [(0, 1), (1, 1), (2, 1)] := Places.of (by kernel_rfl)
theorem T_p24 : Places Try.prog 24 [(0, 1), (1, 1), (2, 1), (3, 1), (4, 1)] := Places.of (by kernel_rfl)
theorem T_p56 : Places Try.prog 56 [(0, 1), (1, 1), (2, 1), (3, 1), (4, 1)] := Places.of (by kernel_rfl)
theorem T_s197 : ∃ inf, Try.prog.info? 197 = some inf ∧ inf.size = 3 := SizeOf.of (by kernel_rfl)
theorem T_s3 : ∃ inf, Try.prog.info? 3 = some inf ∧ inf.size = 1 := SizeOf.of (by kernel_rfl)
theorem T_s56 : ∃ inf, Try.prog.info? 56 = some inf ∧ inf.size = 5 := SizeOf.of (by kernel_rfl)
theorem T_s82 : ∃ inf, Try.prog.info? 82 = some inf ∧ inf.size = 7 := SizeOf.of (by kernel_rfl)
theorem T_s85 : ∃ inf, Try.prog.info? 85 = some inf ∧ inf.size = 1 := SizeOf.of (by kernel_rfl)
theorem T_s9 : ∃ inf, Try.prog.info? 9 = some inf ∧ inf.size = 1 := SizeOf.of (by kernel_rfl)
theorem T_z195 : Zero Try.prog 195 (.agg #[(.map none), (.int .u64 0)]) := Zero.of (by kernel_rfl)
theorem T_z197 : Zero Try.prog 197 (.agg #[(.int .i64 0), (.int .i64 0), (.bool false)]) := Zero.of (by kernel_rfl)
theorem T_z198 : Zero Try.prog 198 (.pointer none) := Zero.of (by kernel_rfl)
theorem T_z202 : Zero Try.prog 202 (.agg #[(.slice none 0 0), (.bool false), (.slice none 0 0)]) := Zero.of (by kernel_rfl)
theorem T_z24 : Zero Try.prog 24 (.agg #[(.int .i64 0), (.int .i64 0), (.int .i64 0), (.string .empty), (.int .i64 0)]) := Zero.of (by kernel_rfl)
theorem T_z3 : Zero Try.prog 3 (.int .i64 0) := Zero.of (by kernel_rfl)
theorem T_z56 : Zero Try.prog 56 (.agg #[(.int .i64 0), (.int .i64 0), (.int .i64 0), (.int .u64 0), (.int .i64 0)]) := Zero.of (by kernel_rfl)
theorem T_z82 : Zero Try.prog 82 (.agg #[(.int .i64 0), (.int .i64 0), (.int .i64 0), (.int .i64 0), (.string .empty), (.int .i64 0), (.int .u64 0)]) := Zero.of (by kernel_rfl)
theorem T_z85 : Zero Try.prog 85 (.slice none 0 0) := Zero.of (by kernel_rfl)
theorem T_z9 : Zero Try.prog 9 (.string .empty) := Zero.of (by kernel_rfl)
end Go.Proofs.Ytbjdadekheoebaa
