/- The program's types and functions: small closed facts. -/
import Derived.Test.YtopimbpclgejhaaProg
import Derived.Test.YtopimbpclgejhaaS6
import Derived.KernelRfl
set_option autoImplicit false
namespace Go.Proofs.Ytopimbpclgejhaa
open Go Go.RowKit
theorem mixed : Try.prog.follows .mixedOrders = true := by kernel_rfl
instance : TyV Try.prog 1 false 1 .nilFunc := ⟨by kernel_rfl, by kernel_rfl, by kernel_rfl⟩
instance : TyBytes Try.prog 1 8 := ⟨by kernel_rfl⟩
instance : TyV Try.prog 2 false 1 (.int .i64 0) := ⟨by kernel_rfl, by kernel_rfl, by kernel_rfl⟩
instance : TyBytes Try.prog 2 8 := ⟨by kernel_rfl⟩
instance : TyInt Try.prog 2 .i64 := ⟨Try.underlying2⟩
instance : TyV Try.prog 3 false 1 (.int .i64 0) := ⟨by kernel_rfl, by kernel_rfl, by kernel_rfl⟩
instance : TyBytes Try.prog 3 8 := ⟨by kernel_rfl⟩
instance : TyInt Try.prog 3 .i64 := ⟨Try.underlying3⟩
instance : TyV Try.prog 4 false 1 (.bool false) := ⟨by kernel_rfl, by kernel_rfl, by kernel_rfl⟩
instance : TyBytes Try.prog 4 1 := ⟨by kernel_rfl⟩
instance : TyBool Try.prog 4 := ⟨Try.underlying4⟩
instance : TyV Try.prog 5 false 1 (.int .u8 0) := ⟨by kernel_rfl, by kernel_rfl, by kernel_rfl⟩
instance : TyBytes Try.prog 5 1 := ⟨by kernel_rfl⟩
instance : TyInt Try.prog 5 .u8 := ⟨Try.underlying5⟩
instance : TyV Try.prog 6 false 1 (.int .u8 0) := ⟨by kernel_rfl, by kernel_rfl, by kernel_rfl⟩
instance : TyBytes Try.prog 6 1 := ⟨by kernel_rfl⟩
instance : TyInt Try.prog 6 .u8 := ⟨Try.underlying6⟩
instance : TyV Try.prog 7 true 4 (.agg #[(.int .i64 0), (.int .i64 0), (.bool false), (.int .u8 0)]) := ⟨by kernel_rfl, by kernel_rfl, by kernel_rfl⟩
instance : TyBytes Try.prog 7 24 := ⟨by kernel_rfl⟩
instance : TyField Try.prog 7 0 0 1 := ⟨_, _, Try.underlying7, rfl, rfl, by kernel_rfl, by decide⟩
instance : TyField Try.prog 7 1 1 1 := ⟨_, _, Try.underlying7, rfl, rfl, by kernel_rfl, by decide⟩
instance : TyField Try.prog 7 2 2 1 := ⟨_, _, Try.underlying7, rfl, rfl, by kernel_rfl, by decide⟩
instance : TyField Try.prog 7 3 3 1 := ⟨_, _, Try.underlying7, rfl, rfl, by kernel_rfl, by decide⟩
instance : TyBuild Try.prog 7 [(0, 1), (1, 1), (2, 1), (3, 1)] := ⟨_, Try.underlying7, fun _ _ => by kernel_rfl⟩
instance : TyV Try.prog 8 true 4 (.agg #[(.int .i64 0), (.int .i64 0), (.bool false), (.int .u8 0)]) := ⟨by kernel_rfl, by kernel_rfl, by kernel_rfl⟩
instance : TyBytes Try.prog 8 24 := ⟨by kernel_rfl⟩
instance : TyField Try.prog 8 0 0 1 := ⟨_, _, Try.underlying8, rfl, rfl, by kernel_rfl, by decide⟩
instance : TyField Try.prog 8 1 1 1 := ⟨_, _, Try.underlying8, rfl, rfl, by kernel_rfl, by decide⟩
instance : TyField Try.prog 8 2 2 1 := ⟨_, _, Try.underlying8, rfl, rfl, by kernel_rfl, by decide⟩
instance : TyField Try.prog 8 3 3 1 := ⟨_, _, Try.underlying8, rfl, rfl, by kernel_rfl, by decide⟩
instance : TyBuild Try.prog 8 [(0, 1), (1, 1), (2, 1), (3, 1)] := ⟨_, Try.underlying8, fun _ _ => by kernel_rfl⟩
instance : TyV Try.prog 9 false 1 (.string ⟨#[]⟩) := ⟨by kernel_rfl, by kernel_rfl, by kernel_rfl⟩
instance : TyBytes Try.prog 9 16 := ⟨by kernel_rfl⟩
instance : TyStr Try.prog 9 := ⟨Try.underlying9⟩
instance : TyV Try.prog 10 false 1 (.string ⟨#[]⟩) := ⟨by kernel_rfl, by kernel_rfl, by kernel_rfl⟩
instance : TyBytes Try.prog 10 16 := ⟨by kernel_rfl⟩
instance : TyStr Try.prog 10 := ⟨Try.underlying10⟩
instance : TyV Try.prog 11 false 1 (.string ⟨#[]⟩) := ⟨by kernel_rfl, by kernel_rfl, by kernel_rfl⟩
instance : TyBytes Try.prog 11 16 := ⟨by kernel_rfl⟩
instance : TyStr Try.prog 11 := ⟨Try.underlying11⟩
instance : TyV Try.prog 12 false 1 (.int .u64 0) := ⟨by kernel_rfl, by kernel_rfl, by kernel_rfl⟩
instance : TyBytes Try.prog 12 8 := ⟨by kernel_rfl⟩
instance : TyInt Try.prog 12 .u64 := ⟨Try.underlying12⟩
instance : TyV Try.prog 13 true 2 (.agg #[(.string ⟨#[]⟩), (.int .u64 0)]) := ⟨by kernel_rfl, by kernel_rfl, by kernel_rfl⟩
instance : TyBytes Try.prog 13 24 := ⟨by kernel_rfl⟩
instance : TyField Try.prog 13 0 0 1 := ⟨_, _, Try.underlying13, rfl, rfl, by kernel_rfl, by decide⟩
instance : TyField Try.prog 13 1 1 1 := ⟨_, _, Try.underlying13, rfl, rfl, by kernel_rfl, by decide⟩
instance : TyBuild Try.prog 13 [(0, 1), (1, 1)] := ⟨_, Try.underlying13, fun _ _ => by kernel_rfl⟩
instance : TyV Try.prog 14 true 2 (.agg #[(.string ⟨#[]⟩), (.int .u64 0)]) := ⟨by kernel_rfl, by kernel_rfl, by kernel_rfl⟩
instance : TyBytes Try.prog 14 24 := ⟨by kernel_rfl⟩
instance : TyField Try.prog 14 0 0 1 := ⟨_, _, Try.underlying14, rfl, rfl, by kernel_rfl, by decide⟩
instance : TyField Try.prog 14 1 1 1 := ⟨_, _, Try.underlying14, rfl, rfl, by kernel_rfl, by decide⟩
instance : TyBuild Try.prog 14 [(0, 1), (1, 1)] := ⟨_, Try.underlying14, fun _ _ => by kernel_rfl⟩
instance : TyV Try.prog 15 false 1 (.pointer none) := ⟨by kernel_rfl, by kernel_rfl, by kernel_rfl⟩
instance : TyBytes Try.prog 15 8 := ⟨by kernel_rfl⟩
instance : TyPtr Try.prog 15 67 := ⟨Try.underlying15⟩
instance : TyV Try.prog 16 false 1 (.pointer none) := ⟨by kernel_rfl, by kernel_rfl, by kernel_rfl⟩
instance : TyBytes Try.prog 16 8 := ⟨by kernel_rfl⟩
instance : TyPtr Try.prog 16 70 := ⟨Try.underlying16⟩
instance : TyV Try.prog 17 false 1 (.pointer none) := ⟨by kernel_rfl, by kernel_rfl, by kernel_rfl⟩
instance : TyBytes Try.prog 17 8 := ⟨by kernel_rfl⟩
instance : TyPtr Try.prog 17 80 := ⟨Try.underlying17⟩
instance : TyV Try.prog 18 true 1 (.agg #[(.pointer none)]) := ⟨by kernel_rfl, by kernel_rfl, by kernel_rfl⟩
instance : TyBytes Try.prog 18 8 := ⟨by kernel_rfl⟩
instance : TyField Try.prog 18 0 0 1 := ⟨_, _, Try.underlying18, rfl, rfl, by kernel_rfl, by decide⟩
instance : TyBuild Try.prog 18 [(0, 1)] := ⟨_, Try.underlying18, fun _ _ => by kernel_rfl⟩
instance : TyV Try.prog 19 true 1 (.agg #[(.pointer none)]) := ⟨by kernel_rfl, by kernel_rfl, by kernel_rfl⟩
instance : TyBytes Try.prog 19 8 := ⟨by kernel_rfl⟩
instance : TyField Try.prog 19 0 0 1 := ⟨_, _, Try.underlying19, rfl, rfl, by kernel_rfl, by decide⟩
instance : TyBuild Try.prog 19 [(0, 1)] := ⟨_, Try.underlying19, fun _ _ => by kernel_rfl⟩
instance : TyV Try.prog 20 false 1 .nilIface := ⟨by kernel_rfl, by kernel_rfl, by kernel_rfl⟩
instance : TyBytes Try.prog 20 16 := ⟨by kernel_rfl⟩
instance : TyV Try.prog 21 false 1 (.int .i32 0) := ⟨by kernel_rfl, by kernel_rfl, by kernel_rfl⟩
instance : TyBytes Try.prog 21 4 := ⟨by kernel_rfl⟩
instance : TyInt Try.prog 21 .i32 := ⟨Try.underlying21⟩
instance : TyV Try.prog 22 false 1 (.slice none 0 0) := ⟨by kernel_rfl, by kernel_rfl, by kernel_rfl⟩
instance : TyBytes Try.prog 22 24 := ⟨by kernel_rfl⟩
instance : TySlice Try.prog 22 3 := ⟨Try.underlying22⟩
instance : TyV Try.prog 23 false 1 (.slice none 0 0) := ⟨by kernel_rfl, by kernel_rfl, by kernel_rfl⟩
instance : TyBytes Try.prog 23 24 := ⟨by kernel_rfl⟩
instance : TySlice Try.prog 23 4 := ⟨Try.underlying23⟩
instance : TyV Try.prog 24 false 1 .nilFunc := ⟨by kernel_rfl, by kernel_rfl, by kernel_rfl⟩
instance : TyBytes Try.prog 24 8 := ⟨by kernel_rfl⟩
instance : TyV Try.prog 25 false 1 .nilFunc := ⟨by kernel_rfl, by kernel_rfl, by kernel_rfl⟩
instance : TyBytes Try.prog 25 8 := ⟨by kernel_rfl⟩
instance : TyV Try.prog 26 false 1 .nilFunc := ⟨by kernel_rfl, by kernel_rfl, by kernel_rfl⟩
instance : TyBytes Try.prog 26 8 := ⟨by kernel_rfl⟩
instance : TyV Try.prog 27 false 1 .nilFunc := ⟨by kernel_rfl, by kernel_rfl, by kernel_rfl⟩
instance : TyBytes Try.prog 27 8 := ⟨by kernel_rfl⟩
instance : TyV Try.prog 28 false 1 .nilFunc := ⟨by kernel_rfl, by kernel_rfl, by kernel_rfl⟩
instance : TyBytes Try.prog 28 8 := ⟨by kernel_rfl⟩
instance : TyV Try.prog 29 false 1 .nilFunc := ⟨by kernel_rfl, by kernel_rfl, by kernel_rfl⟩
instance : TyBytes Try.prog 29 8 := ⟨by kernel_rfl⟩
instance : TyV Try.prog 30 false 1 .nilFunc := ⟨by kernel_rfl, by kernel_rfl, by kernel_rfl⟩
instance : TyBytes Try.prog 30 8 := ⟨by kernel_rfl⟩
instance : TyV Try.prog 31 false 1 (.slice none 0 0) := ⟨by kernel_rfl, by kernel_rfl, by kernel_rfl⟩
instance : TyBytes Try.prog 31 24 := ⟨by kernel_rfl⟩
instance : TySlice Try.prog 31 82 := ⟨Try.underlying31⟩
instance : TyV Try.prog 32 true 3 (.agg #[(.int .i64 0), (.int .i64 0), (.int .i64 0)]) := ⟨by kernel_rfl, by kernel_rfl, by kernel_rfl⟩
instance : TyBytes Try.prog 32 24 := ⟨by kernel_rfl⟩
instance : TyField Try.prog 32 0 0 1 := ⟨_, _, Try.underlying32, rfl, rfl, by kernel_rfl, by decide⟩
instance : TyField Try.prog 32 1 1 1 := ⟨_, _, Try.underlying32, rfl, rfl, by kernel_rfl, by decide⟩
instance : TyField Try.prog 32 2 2 1 := ⟨_, _, Try.underlying32, rfl, rfl, by kernel_rfl, by decide⟩
instance : TyBuild Try.prog 32 [(0, 1), (1, 1), (2, 1)] := ⟨_, Try.underlying32, fun _ _ => by kernel_rfl⟩
instance : TyV Try.prog 33 true 3 (.agg #[(.int .i64 0), (.int .i64 0), (.int .i64 0)]) := ⟨by kernel_rfl, by kernel_rfl, by kernel_rfl⟩
instance : TyBytes Try.prog 33 24 := ⟨by kernel_rfl⟩
instance : TyField Try.prog 33 0 0 1 := ⟨_, _, Try.underlying33, rfl, rfl, by kernel_rfl, by decide⟩
instance : TyField Try.prog 33 1 1 1 := ⟨_, _, Try.underlying33, rfl, rfl, by kernel_rfl, by decide⟩
instance : TyField Try.prog 33 2 2 1 := ⟨_, _, Try.underlying33, rfl, rfl, by kernel_rfl, by decide⟩
instance : TyBuild Try.prog 33 [(0, 1), (1, 1), (2, 1)] := ⟨_, Try.underlying33, fun _ _ => by kernel_rfl⟩
instance : TyV Try.prog 34 false 1 (.slice none 0 0) := ⟨by kernel_rfl, by kernel_rfl, by kernel_rfl⟩
instance : TyBytes Try.prog 34 24 := ⟨by kernel_rfl⟩
instance : TySlice Try.prog 34 84 := ⟨Try.underlying34⟩
instance : TyV Try.prog 35 false 1 (.slice none 0 0) := ⟨by kernel_rfl, by kernel_rfl, by kernel_rfl⟩
instance : TyBytes Try.prog 35 24 := ⟨by kernel_rfl⟩
instance : TySlice Try.prog 35 86 := ⟨Try.underlying35⟩
instance : TyV Try.prog 36 false 1 (.slice none 0 0) := ⟨by kernel_rfl, by kernel_rfl, by kernel_rfl⟩
instance : TyBytes Try.prog 36 24 := ⟨by kernel_rfl⟩
instance : TySlice Try.prog 36 88 := ⟨Try.underlying36⟩
instance : TyV Try.prog 37 false 1 (.slice none 0 0) := ⟨by kernel_rfl, by kernel_rfl, by kernel_rfl⟩
instance : TyBytes Try.prog 37 24 := ⟨by kernel_rfl⟩
instance : TySlice Try.prog 37 90 := ⟨Try.underlying37⟩
instance : TyV Try.prog 38 false 1 (.slice none 0 0) := ⟨by kernel_rfl, by kernel_rfl, by kernel_rfl⟩
instance : TyBytes Try.prog 38 24 := ⟨by kernel_rfl⟩
instance : TySlice Try.prog 38 92 := ⟨Try.underlying38⟩
instance : TyV Try.prog 39 false 1 (.slice none 0 0) := ⟨by kernel_rfl, by kernel_rfl, by kernel_rfl⟩
instance : TyBytes Try.prog 39 24 := ⟨by kernel_rfl⟩
instance : TySlice Try.prog 39 9 := ⟨Try.underlying39⟩
instance : TyV Try.prog 40 true 16 (.agg #[(.string ⟨#[]⟩), (.int .i64 0), (.slice none 0 0), (.int .i64 0), (.int .i64 0), (.int .i64 0), (.slice none 0 0), (.slice none 0 0), (.slice none 0 0), (.slice none 0 0), (.slice none 0 0), (.slice none 0 0), (.slice none 0 0), (.slice none 0 0), (.string ⟨#[]⟩), (.string ⟨#[]⟩)]) := ⟨by kernel_rfl, by kernel_rfl, by kernel_rfl⟩
instance : TyBytes Try.prog 40 296 := ⟨by kernel_rfl⟩
instance : TyField Try.prog 40 0 0 1 := ⟨_, _, Try.underlying40, rfl, rfl, by kernel_rfl, by decide⟩
instance : TyField Try.prog 40 1 1 1 := ⟨_, _, Try.underlying40, rfl, rfl, by kernel_rfl, by decide⟩
instance : TyField Try.prog 40 2 2 1 := ⟨_, _, Try.underlying40, rfl, rfl, by kernel_rfl, by decide⟩
instance : TyField Try.prog 40 3 3 3 := ⟨_, _, Try.underlying40, rfl, rfl, by kernel_rfl, by decide⟩
instance : TyField Try.prog 40 4 6 1 := ⟨_, _, Try.underlying40, rfl, rfl, by kernel_rfl, by decide⟩
instance : TyField Try.prog 40 5 7 1 := ⟨_, _, Try.underlying40, rfl, rfl, by kernel_rfl, by decide⟩
instance : TyField Try.prog 40 6 8 1 := ⟨_, _, Try.underlying40, rfl, rfl, by kernel_rfl, by decide⟩
instance : TyField Try.prog 40 7 9 1 := ⟨_, _, Try.underlying40, rfl, rfl, by kernel_rfl, by decide⟩
instance : TyField Try.prog 40 8 10 1 := ⟨_, _, Try.underlying40, rfl, rfl, by kernel_rfl, by decide⟩
instance : TyField Try.prog 40 9 11 1 := ⟨_, _, Try.underlying40, rfl, rfl, by kernel_rfl, by decide⟩
instance : TyField Try.prog 40 10 12 1 := ⟨_, _, Try.underlying40, rfl, rfl, by kernel_rfl, by decide⟩
instance : TyField Try.prog 40 11 13 1 := ⟨_, _, Try.underlying40, rfl, rfl, by kernel_rfl, by decide⟩
instance : TyField Try.prog 40 12 14 1 := ⟨_, _, Try.underlying40, rfl, rfl, by kernel_rfl, by decide⟩
instance : TyField Try.prog 40 13 15 1 := ⟨_, _, Try.underlying40, rfl, rfl, by kernel_rfl, by decide⟩
instance : TyBuild Try.prog 40 [(0, 1), (1, 1), (2, 1), (3, 3), (6, 1), (7, 1), (8, 1), (9, 1), (10, 1), (11, 1), (12, 1), (13, 1), (14, 1), (15, 1)] := ⟨_, Try.underlying40, fun _ _ => by kernel_rfl⟩
instance : TyV Try.prog 41 true 16 (.agg #[(.string ⟨#[]⟩), (.int .i64 0), (.slice none 0 0), (.int .i64 0), (.int .i64 0), (.int .i64 0), (.slice none 0 0), (.slice none 0 0), (.slice none 0 0), (.slice none 0 0), (.slice none 0 0), (.slice none 0 0), (.slice none 0 0), (.slice none 0 0), (.string ⟨#[]⟩), (.string ⟨#[]⟩)]) := ⟨by kernel_rfl, by kernel_rfl, by kernel_rfl⟩
instance : TyBytes Try.prog 41 296 := ⟨by kernel_rfl⟩
instance : TyField Try.prog 41 0 0 1 := ⟨_, _, Try.underlying41, rfl, rfl, by kernel_rfl, by decide⟩
instance : TyField Try.prog 41 1 1 1 := ⟨_, _, Try.underlying41, rfl, rfl, by kernel_rfl, by decide⟩
instance : TyField Try.prog 41 2 2 1 := ⟨_, _, Try.underlying41, rfl, rfl, by kernel_rfl, by decide⟩
instance : TyField Try.prog 41 3 3 3 := ⟨_, _, Try.underlying41, rfl, rfl, by kernel_rfl, by decide⟩
instance : TyField Try.prog 41 4 6 1 := ⟨_, _, Try.underlying41, rfl, rfl, by kernel_rfl, by decide⟩
instance : TyField Try.prog 41 5 7 1 := ⟨_, _, Try.underlying41, rfl, rfl, by kernel_rfl, by decide⟩
instance : TyField Try.prog 41 6 8 1 := ⟨_, _, Try.underlying41, rfl, rfl, by kernel_rfl, by decide⟩
instance : TyField Try.prog 41 7 9 1 := ⟨_, _, Try.underlying41, rfl, rfl, by kernel_rfl, by decide⟩
instance : TyField Try.prog 41 8 10 1 := ⟨_, _, Try.underlying41, rfl, rfl, by kernel_rfl, by decide⟩
instance : TyField Try.prog 41 9 11 1 := ⟨_, _, Try.underlying41, rfl, rfl, by kernel_rfl, by decide⟩
instance : TyField Try.prog 41 10 12 1 := ⟨_, _, Try.underlying41, rfl, rfl, by kernel_rfl, by decide⟩
instance : TyField Try.prog 41 11 13 1 := ⟨_, _, Try.underlying41, rfl, rfl, by kernel_rfl, by decide⟩
instance : TyField Try.prog 41 12 14 1 := ⟨_, _, Try.underlying41, rfl, rfl, by kernel_rfl, by decide⟩
instance : TyField Try.prog 41 13 15 1 := ⟨_, _, Try.underlying41, rfl, rfl, by kernel_rfl, by decide⟩
instance : TyBuild Try.prog 41 [(0, 1), (1, 1), (2, 1), (3, 3), (6, 1), (7, 1), (8, 1), (9, 1), (10, 1), (11, 1), (12, 1), (13, 1), (14, 1), (15, 1)] := ⟨_, Try.underlying41, fun _ _ => by kernel_rfl⟩
instance : TyV Try.prog 42 false 1 (.slice none 0 0) := ⟨by kernel_rfl, by kernel_rfl, by kernel_rfl⟩
instance : TyBytes Try.prog 42 24 := ⟨by kernel_rfl⟩
instance : TySlice Try.prog 42 94 := ⟨Try.underlying42⟩
instance : TyV Try.prog 43 true 9 (.agg #[(.string ⟨#[]⟩), (.slice none 0 0), (.slice none 0 0), (.bool false), (.int .i64 0), (.int .i64 0), (.int .i64 0), (.int .i64 0), (.int .i64 0)]) := ⟨by kernel_rfl, by kernel_rfl, by kernel_rfl⟩
instance : TyBytes Try.prog 43 112 := ⟨by kernel_rfl⟩
instance : TyField Try.prog 43 0 0 1 := ⟨_, _, Try.underlying43, rfl, rfl, by kernel_rfl, by decide⟩
instance : TyField Try.prog 43 1 1 1 := ⟨_, _, Try.underlying43, rfl, rfl, by kernel_rfl, by decide⟩
instance : TyField Try.prog 43 2 2 1 := ⟨_, _, Try.underlying43, rfl, rfl, by kernel_rfl, by decide⟩
instance : TyField Try.prog 43 3 3 1 := ⟨_, _, Try.underlying43, rfl, rfl, by kernel_rfl, by decide⟩
instance : TyField Try.prog 43 4 4 3 := ⟨_, _, Try.underlying43, rfl, rfl, by kernel_rfl, by decide⟩
instance : TyField Try.prog 43 5 7 1 := ⟨_, _, Try.underlying43, rfl, rfl, by kernel_rfl, by decide⟩
instance : TyField Try.prog 43 6 8 1 := ⟨_, _, Try.underlying43, rfl, rfl, by kernel_rfl, by decide⟩
instance : TyBuild Try.prog 43 [(0, 1), (1, 1), (2, 1), (3, 1), (4, 3), (7, 1), (8, 1)] := ⟨_, Try.underlying43, fun _ _ => by kernel_rfl⟩
instance : TyV Try.prog 44 true 9 (.agg #[(.string ⟨#[]⟩), (.slice none 0 0), (.slice none 0 0), (.bool false), (.int .i64 0), (.int .i64 0), (.int .i64 0), (.int .i64 0), (.int .i64 0)]) := ⟨by kernel_rfl, by kernel_rfl, by kernel_rfl⟩
instance : TyBytes Try.prog 44 112 := ⟨by kernel_rfl⟩
instance : TyField Try.prog 44 0 0 1 := ⟨_, _, Try.underlying44, rfl, rfl, by kernel_rfl, by decide⟩
instance : TyField Try.prog 44 1 1 1 := ⟨_, _, Try.underlying44, rfl, rfl, by kernel_rfl, by decide⟩
instance : TyField Try.prog 44 2 2 1 := ⟨_, _, Try.underlying44, rfl, rfl, by kernel_rfl, by decide⟩
instance : TyField Try.prog 44 3 3 1 := ⟨_, _, Try.underlying44, rfl, rfl, by kernel_rfl, by decide⟩
instance : TyField Try.prog 44 4 4 3 := ⟨_, _, Try.underlying44, rfl, rfl, by kernel_rfl, by decide⟩
instance : TyField Try.prog 44 5 7 1 := ⟨_, _, Try.underlying44, rfl, rfl, by kernel_rfl, by decide⟩
instance : TyField Try.prog 44 6 8 1 := ⟨_, _, Try.underlying44, rfl, rfl, by kernel_rfl, by decide⟩
instance : TyBuild Try.prog 44 [(0, 1), (1, 1), (2, 1), (3, 1), (4, 3), (7, 1), (8, 1)] := ⟨_, Try.underlying44, fun _ _ => by kernel_rfl⟩
instance : TyV Try.prog 45 true 15 (.agg #[(.string ⟨#[]⟩), (.slice none 0 0), (.slice none 0 0), (.bool false), (.int .i64 0), (.int .i64 0), (.int .i64 0), (.int .i64 0), (.int .i64 0), (.slice none 0 0), (.int .i64 0), (.int .i64 0), (.int .i64 0), (.slice none 0 0), (.slice none 0 0)]) := ⟨by kernel_rfl, by kernel_rfl, by kernel_rfl⟩
instance : TyBytes Try.prog 45 208 := ⟨by kernel_rfl⟩
instance : TyField Try.prog 45 0 0 9 := ⟨_, _, Try.underlying45, rfl, rfl, by kernel_rfl, by decide⟩
instance : TyField Try.prog 45 1 9 1 := ⟨_, _, Try.underlying45, rfl, rfl, by kernel_rfl, by decide⟩
instance : TyField Try.prog 45 2 10 3 := ⟨_, _, Try.underlying45, rfl, rfl, by kernel_rfl, by decide⟩
instance : TyField Try.prog 45 3 13 1 := ⟨_, _, Try.underlying45, rfl, rfl, by kernel_rfl, by decide⟩
instance : TyField Try.prog 45 4 14 1 := ⟨_, _, Try.underlying45, rfl, rfl, by kernel_rfl, by decide⟩
instance : TyBuild Try.prog 45 [(0, 9), (9, 1), (10, 3), (13, 1), (14, 1)] := ⟨_, Try.underlying45, fun _ _ => by kernel_rfl⟩
instance : TyV Try.prog 46 true 15 (.agg #[(.string ⟨#[]⟩), (.slice none 0 0), (.slice none 0 0), (.bool false), (.int .i64 0), (.int .i64 0), (.int .i64 0), (.int .i64 0), (.int .i64 0), (.slice none 0 0), (.int .i64 0), (.int .i64 0), (.int .i64 0), (.slice none 0 0), (.slice none 0 0)]) := ⟨by kernel_rfl, by kernel_rfl, by kernel_rfl⟩
instance : TyBytes Try.prog 46 208 := ⟨by kernel_rfl⟩
instance : TyField Try.prog 46 0 0 9 := ⟨_, _, Try.underlying46, rfl, rfl, by kernel_rfl, by decide⟩
instance : TyField Try.prog 46 1 9 1 := ⟨_, _, Try.underlying46, rfl, rfl, by kernel_rfl, by decide⟩
instance : TyField Try.prog 46 2 10 3 := ⟨_, _, Try.underlying46, rfl, rfl, by kernel_rfl, by decide⟩
instance : TyField Try.prog 46 3 13 1 := ⟨_, _, Try.underlying46, rfl, rfl, by kernel_rfl, by decide⟩
instance : TyField Try.prog 46 4 14 1 := ⟨_, _, Try.underlying46, rfl, rfl, by kernel_rfl, by decide⟩
instance : TyBuild Try.prog 46 [(0, 9), (9, 1), (10, 3), (13, 1), (14, 1)] := ⟨_, Try.underlying46, fun _ _ => by kernel_rfl⟩
instance : TyV Try.prog 47 false 1 .nilFunc := ⟨by kernel_rfl, by kernel_rfl, by kernel_rfl⟩
instance : TyBytes Try.prog 47 8 := ⟨by kernel_rfl⟩
instance : TyV Try.prog 48 false 1 .nilFunc := ⟨by kernel_rfl, by kernel_rfl, by kernel_rfl⟩
instance : TyBytes Try.prog 48 8 := ⟨by kernel_rfl⟩
instance : TyV Try.prog 49 false 1 .nilFunc := ⟨by kernel_rfl, by kernel_rfl, by kernel_rfl⟩
instance : TyBytes Try.prog 49 8 := ⟨by kernel_rfl⟩
instance : TyV Try.prog 50 false 1 (.int .u64 0) := ⟨by kernel_rfl, by kernel_rfl, by kernel_rfl⟩
instance : TyBytes Try.prog 50 8 := ⟨by kernel_rfl⟩
instance : TyInt Try.prog 50 .u64 := ⟨Try.underlying50⟩
instance : TyV Try.prog 51 false 1 .nilFunc := ⟨by kernel_rfl, by kernel_rfl, by kernel_rfl⟩
instance : TyBytes Try.prog 51 8 := ⟨by kernel_rfl⟩
instance : TyV Try.prog 52 false 1 .nilFunc := ⟨by kernel_rfl, by kernel_rfl, by kernel_rfl⟩
instance : TyBytes Try.prog 52 8 := ⟨by kernel_rfl⟩
instance : TyV Try.prog 53 false 1 .nilFunc := ⟨by kernel_rfl, by kernel_rfl, by kernel_rfl⟩
instance : TyBytes Try.prog 53 8 := ⟨by kernel_rfl⟩
instance : TyV Try.prog 54 false 1 .nilFunc := ⟨by kernel_rfl, by kernel_rfl, by kernel_rfl⟩
instance : TyBytes Try.prog 54 8 := ⟨by kernel_rfl⟩
instance : TyV Try.prog 55 true 3 (.agg #[(.int .i64 0), (.int .i64 0), (.int .i64 0)]) := ⟨by kernel_rfl, by kernel_rfl, by kernel_rfl⟩
instance : TyBytes Try.prog 55 24 := ⟨by kernel_rfl⟩
instance : TyArr Try.prog 55 3 3 := ⟨Try.underlying55⟩
instance : TyV Try.prog 56 true 3 (.agg #[(.int .i64 0), (.int .i64 0), (.int .i64 0)]) := ⟨by kernel_rfl, by kernel_rfl, by kernel_rfl⟩
instance : TyBytes Try.prog 56 24 := ⟨by kernel_rfl⟩
instance : TyArr Try.prog 56 3 3 := ⟨Try.underlying56⟩
instance : TyV Try.prog 58 false 1 .nilFunc := ⟨by kernel_rfl, by kernel_rfl, by kernel_rfl⟩
instance : TyBytes Try.prog 58 8 := ⟨by kernel_rfl⟩
instance : TyV Try.prog 59 false 1 .nilFunc := ⟨by kernel_rfl, by kernel_rfl, by kernel_rfl⟩
instance : TyBytes Try.prog 59 8 := ⟨by kernel_rfl⟩
instance : TyV Try.prog 60 false 1 .nilFunc := ⟨by kernel_rfl, by kernel_rfl, by kernel_rfl⟩
instance : TyBytes Try.prog 60 8 := ⟨by kernel_rfl⟩
instance : TyV Try.prog 61 false 1 .nilFunc := ⟨by kernel_rfl, by kernel_rfl, by kernel_rfl⟩
instance : TyBytes Try.prog 61 8 := ⟨by kernel_rfl⟩
instance : TyV Try.prog 62 false 1 .nilFunc := ⟨by kernel_rfl, by kernel_rfl, by kernel_rfl⟩
instance : TyBytes Try.prog 62 8 := ⟨by kernel_rfl⟩
instance : TyV Try.prog 63 false 1 .nilFunc := ⟨by kernel_rfl, by kernel_rfl, by kernel_rfl⟩
instance : TyBytes Try.prog 63 8 := ⟨by kernel_rfl⟩
instance : TyV Try.prog 64 false 1 .nilFunc := ⟨by kernel_rfl, by kernel_rfl, by kernel_rfl⟩
instance : TyBytes Try.prog 64 8 := ⟨by kernel_rfl⟩
instance : TyV Try.prog 65 false 1 .nilFunc := ⟨by kernel_rfl, by kernel_rfl, by kernel_rfl⟩
instance : TyBytes Try.prog 65 8 := ⟨by kernel_rfl⟩
instance : TyV Try.prog 66 true 4 (.agg #[(.pointer none), (.pointer none), (.pointer none), (.string ⟨#[]⟩)]) := ⟨by kernel_rfl, by kernel_rfl, by kernel_rfl⟩
instance : TyBytes Try.prog 66 40 := ⟨by kernel_rfl⟩
instance : TyField Try.prog 66 0 0 1 := ⟨_, _, Try.underlying66, rfl, rfl, by kernel_rfl, by decide⟩
instance : TyField Try.prog 66 1 1 1 := ⟨_, _, Try.underlying66, rfl, rfl, by kernel_rfl, by decide⟩
instance : TyField Try.prog 66 2 2 1 := ⟨_, _, Try.underlying66, rfl, rfl, by kernel_rfl, by decide⟩
instance : TyField Try.prog 66 3 3 1 := ⟨_, _, Try.underlying66, rfl, rfl, by kernel_rfl, by decide⟩
instance : TyBuild Try.prog 66 [(0, 1), (1, 1), (2, 1), (3, 1)] := ⟨_, Try.underlying66, fun _ _ => by kernel_rfl⟩
instance : TyV Try.prog 67 true 4 (.agg #[(.pointer none), (.pointer none), (.pointer none), (.string ⟨#[]⟩)]) := ⟨by kernel_rfl, by kernel_rfl, by kernel_rfl⟩
instance : TyBytes Try.prog 67 40 := ⟨by kernel_rfl⟩
instance : TyField Try.prog 67 0 0 1 := ⟨_, _, Try.underlying67, rfl, rfl, by kernel_rfl, by decide⟩
instance : TyField Try.prog 67 1 1 1 := ⟨_, _, Try.underlying67, rfl, rfl, by kernel_rfl, by decide⟩
instance : TyField Try.prog 67 2 2 1 := ⟨_, _, Try.underlying67, rfl, rfl, by kernel_rfl, by decide⟩
instance : TyField Try.prog 67 3 3 1 := ⟨_, _, Try.underlying67, rfl, rfl, by kernel_rfl, by decide⟩
instance : TyBuild Try.prog 67 [(0, 1), (1, 1), (2, 1), (3, 1)] := ⟨_, Try.underlying67, fun _ _ => by kernel_rfl⟩
instance : TyV Try.prog 68 true 0 (.agg #[]) := ⟨by kernel_rfl, by kernel_rfl, by kernel_rfl⟩
instance : TyBytes Try.prog 68 0 := ⟨by kernel_rfl⟩
instance : TyArr Try.prog 68 0 16 := ⟨Try.underlying68⟩
instance : TyV Try.prog 69 true 0 (.agg #[]) := ⟨by kernel_rfl, by kernel_rfl, by kernel_rfl⟩
instance : TyBytes Try.prog 69 0 := ⟨by kernel_rfl⟩
instance : TyBuild Try.prog 69 [(0, 0)] := ⟨_, Try.underlying69, fun _ _ => by kernel_rfl⟩
instance : TyV Try.prog 70 true 0 (.agg #[]) := ⟨by kernel_rfl, by kernel_rfl, by kernel_rfl⟩
instance : TyBytes Try.prog 70 0 := ⟨by kernel_rfl⟩
instance : TyBuild Try.prog 70 [(0, 0)] := ⟨_, Try.underlying70, fun _ _ => by kernel_rfl⟩
instance : TyV Try.prog 71 false 1 .nilFunc := ⟨by kernel_rfl, by kernel_rfl, by kernel_rfl⟩
instance : TyBytes Try.prog 71 8 := ⟨by kernel_rfl⟩
instance : TyV Try.prog 72 false 1 (.int .u32 0) := ⟨by kernel_rfl, by kernel_rfl, by kernel_rfl⟩
instance : TyBytes Try.prog 72 4 := ⟨by kernel_rfl⟩
instance : TyInt Try.prog 72 .u32 := ⟨Try.underlying72⟩
instance : TyV Try.prog 73 false 1 (.int .u8 0) := ⟨by kernel_rfl, by kernel_rfl, by kernel_rfl⟩
instance : TyBytes Try.prog 73 1 := ⟨by kernel_rfl⟩
instance : TyInt Try.prog 73 .u8 := ⟨Try.underlying73⟩
instance : TyV Try.prog 74 false 1 (.int .u8 0) := ⟨by kernel_rfl, by kernel_rfl, by kernel_rfl⟩
instance : TyBytes Try.prog 74 1 := ⟨by kernel_rfl⟩
instance : TyInt Try.prog 74 .u8 := ⟨Try.underlying74⟩
instance : TyV Try.prog 75 false 1 .nilFunc := ⟨by kernel_rfl, by kernel_rfl, by kernel_rfl⟩
instance : TyBytes Try.prog 75 8 := ⟨by kernel_rfl⟩
instance : TyV Try.prog 76 false 1 (.pointer none) := ⟨by kernel_rfl, by kernel_rfl, by kernel_rfl⟩
instance : TyBytes Try.prog 76 8 := ⟨by kernel_rfl⟩
instance : TyPtr Try.prog 76 5 := ⟨Try.underlying76⟩
instance : TyV Try.prog 77 false 1 (.int .i32 0) := ⟨by kernel_rfl, by kernel_rfl, by kernel_rfl⟩
instance : TyBytes Try.prog 77 4 := ⟨by kernel_rfl⟩
instance : TyInt Try.prog 77 .i32 := ⟨Try.underlying77⟩
instance : TyV Try.prog 78 false 1 (.int .i32 0) := ⟨by kernel_rfl, by kernel_rfl, by kernel_rfl⟩
instance : TyBytes Try.prog 78 4 := ⟨by kernel_rfl⟩
instance : TyInt Try.prog 78 .i32 := ⟨Try.underlying78⟩
instance : TyV Try.prog 79 true 11 (.agg #[(.int .u64 0), (.int .u64 0), (.int .u32 0), (.int .u8 0), (.int .u8 0), (.int .u8 0), (.int .u8 0), .nilFunc, (.pointer none), (.int .i32 0), (.int .i32 0)]) := ⟨by kernel_rfl, by kernel_rfl, by kernel_rfl⟩
instance : TyBytes Try.prog 79 48 := ⟨by kernel_rfl⟩
instance : TyField Try.prog 79 0 0 1 := ⟨_, _, Try.underlying79, rfl, rfl, by kernel_rfl, by decide⟩
instance : TyField Try.prog 79 1 1 1 := ⟨_, _, Try.underlying79, rfl, rfl, by kernel_rfl, by decide⟩
instance : TyField Try.prog 79 2 2 1 := ⟨_, _, Try.underlying79, rfl, rfl, by kernel_rfl, by decide⟩
instance : TyField Try.prog 79 3 3 1 := ⟨_, _, Try.underlying79, rfl, rfl, by kernel_rfl, by decide⟩
instance : TyField Try.prog 79 4 4 1 := ⟨_, _, Try.underlying79, rfl, rfl, by kernel_rfl, by decide⟩
instance : TyField Try.prog 79 5 5 1 := ⟨_, _, Try.underlying79, rfl, rfl, by kernel_rfl, by decide⟩
instance : TyField Try.prog 79 6 6 1 := ⟨_, _, Try.underlying79, rfl, rfl, by kernel_rfl, by decide⟩
instance : TyField Try.prog 79 7 7 1 := ⟨_, _, Try.underlying79, rfl, rfl, by kernel_rfl, by decide⟩
instance : TyField Try.prog 79 8 8 1 := ⟨_, _, Try.underlying79, rfl, rfl, by kernel_rfl, by decide⟩
instance : TyField Try.prog 79 9 9 1 := ⟨_, _, Try.underlying79, rfl, rfl, by kernel_rfl, by decide⟩
instance : TyField Try.prog 79 10 10 1 := ⟨_, _, Try.underlying79, rfl, rfl, by kernel_rfl, by decide⟩
instance : TyBuild Try.prog 79 [(0, 1), (1, 1), (2, 1), (3, 1), (4, 1), (5, 1), (6, 1), (7, 1), (8, 1), (9, 1), (10, 1)] := ⟨_, Try.underlying79, fun _ _ => by kernel_rfl⟩
instance : TyV Try.prog 80 true 11 (.agg #[(.int .u64 0), (.int .u64 0), (.int .u32 0), (.int .u8 0), (.int .u8 0), (.int .u8 0), (.int .u8 0), .nilFunc, (.pointer none), (.int .i32 0), (.int .i32 0)]) := ⟨by kernel_rfl, by kernel_rfl, by kernel_rfl⟩
instance : TyBytes Try.prog 80 48 := ⟨by kernel_rfl⟩
instance : TyField Try.prog 80 0 0 1 := ⟨_, _, Try.underlying80, rfl, rfl, by kernel_rfl, by decide⟩
instance : TyField Try.prog 80 1 1 1 := ⟨_, _, Try.underlying80, rfl, rfl, by kernel_rfl, by decide⟩
instance : TyField Try.prog 80 2 2 1 := ⟨_, _, Try.underlying80, rfl, rfl, by kernel_rfl, by decide⟩
instance : TyField Try.prog 80 3 3 1 := ⟨_, _, Try.underlying80, rfl, rfl, by kernel_rfl, by decide⟩
instance : TyField Try.prog 80 4 4 1 := ⟨_, _, Try.underlying80, rfl, rfl, by kernel_rfl, by decide⟩
instance : TyField Try.prog 80 5 5 1 := ⟨_, _, Try.underlying80, rfl, rfl, by kernel_rfl, by decide⟩
instance : TyField Try.prog 80 6 6 1 := ⟨_, _, Try.underlying80, rfl, rfl, by kernel_rfl, by decide⟩
instance : TyField Try.prog 80 7 7 1 := ⟨_, _, Try.underlying80, rfl, rfl, by kernel_rfl, by decide⟩
instance : TyField Try.prog 80 8 8 1 := ⟨_, _, Try.underlying80, rfl, rfl, by kernel_rfl, by decide⟩
instance : TyField Try.prog 80 9 9 1 := ⟨_, _, Try.underlying80, rfl, rfl, by kernel_rfl, by decide⟩
instance : TyField Try.prog 80 10 10 1 := ⟨_, _, Try.underlying80, rfl, rfl, by kernel_rfl, by decide⟩
instance : TyBuild Try.prog 80 [(0, 1), (1, 1), (2, 1), (3, 1), (4, 1), (5, 1), (6, 1), (7, 1), (8, 1), (9, 1), (10, 1)] := ⟨_, Try.underlying80, fun _ _ => by kernel_rfl⟩
instance : TyV Try.prog 81 true 2 (.agg #[(.string ⟨#[]⟩), (.string ⟨#[]⟩)]) := ⟨by kernel_rfl, by kernel_rfl, by kernel_rfl⟩
instance : TyBytes Try.prog 81 32 := ⟨by kernel_rfl⟩
instance : TyField Try.prog 81 0 0 1 := ⟨_, _, Try.underlying81, rfl, rfl, by kernel_rfl, by decide⟩
instance : TyField Try.prog 81 1 1 1 := ⟨_, _, Try.underlying81, rfl, rfl, by kernel_rfl, by decide⟩
instance : TyBuild Try.prog 81 [(0, 1), (1, 1)] := ⟨_, Try.underlying81, fun _ _ => by kernel_rfl⟩
instance : TyV Try.prog 82 true 2 (.agg #[(.string ⟨#[]⟩), (.string ⟨#[]⟩)]) := ⟨by kernel_rfl, by kernel_rfl, by kernel_rfl⟩
instance : TyBytes Try.prog 82 32 := ⟨by kernel_rfl⟩
instance : TyField Try.prog 82 0 0 1 := ⟨_, _, Try.underlying82, rfl, rfl, by kernel_rfl, by decide⟩
instance : TyField Try.prog 82 1 1 1 := ⟨_, _, Try.underlying82, rfl, rfl, by kernel_rfl, by decide⟩
instance : TyBuild Try.prog 82 [(0, 1), (1, 1)] := ⟨_, Try.underlying82, fun _ _ => by kernel_rfl⟩
instance : TyV Try.prog 83 true 4 (.agg #[(.string ⟨#[]⟩), (.string ⟨#[]⟩), (.bool false), (.int .i64 0)]) := ⟨by kernel_rfl, by kernel_rfl, by kernel_rfl⟩
instance : TyBytes Try.prog 83 48 := ⟨by kernel_rfl⟩
instance : TyField Try.prog 83 0 0 1 := ⟨_, _, Try.underlying83, rfl, rfl, by kernel_rfl, by decide⟩
instance : TyField Try.prog 83 1 1 1 := ⟨_, _, Try.underlying83, rfl, rfl, by kernel_rfl, by decide⟩
instance : TyField Try.prog 83 2 2 1 := ⟨_, _, Try.underlying83, rfl, rfl, by kernel_rfl, by decide⟩
instance : TyField Try.prog 83 3 3 1 := ⟨_, _, Try.underlying83, rfl, rfl, by kernel_rfl, by decide⟩
instance : TyBuild Try.prog 83 [(0, 1), (1, 1), (2, 1), (3, 1)] := ⟨_, Try.underlying83, fun _ _ => by kernel_rfl⟩
instance : TyV Try.prog 84 true 4 (.agg #[(.string ⟨#[]⟩), (.string ⟨#[]⟩), (.bool false), (.int .i64 0)]) := ⟨by kernel_rfl, by kernel_rfl, by kernel_rfl⟩
instance : TyBytes Try.prog 84 48 := ⟨by kernel_rfl⟩
instance : TyField Try.prog 84 0 0 1 := ⟨_, _, Try.underlying84, rfl, rfl, by kernel_rfl, by decide⟩
instance : TyField Try.prog 84 1 1 1 := ⟨_, _, Try.underlying84, rfl, rfl, by kernel_rfl, by decide⟩
instance : TyField Try.prog 84 2 2 1 := ⟨_, _, Try.underlying84, rfl, rfl, by kernel_rfl, by decide⟩
instance : TyField Try.prog 84 3 3 1 := ⟨_, _, Try.underlying84, rfl, rfl, by kernel_rfl, by decide⟩
instance : TyBuild Try.prog 84 [(0, 1), (1, 1), (2, 1), (3, 1)] := ⟨_, Try.underlying84, fun _ _ => by kernel_rfl⟩
instance : TyV Try.prog 85 true 3 (.agg #[(.string ⟨#[]⟩), (.int .i64 0), (.slice none 0 0)]) := ⟨by kernel_rfl, by kernel_rfl, by kernel_rfl⟩
instance : TyBytes Try.prog 85 48 := ⟨by kernel_rfl⟩
instance : TyField Try.prog 85 0 0 1 := ⟨_, _, Try.underlying85, rfl, rfl, by kernel_rfl, by decide⟩
instance : TyField Try.prog 85 1 1 1 := ⟨_, _, Try.underlying85, rfl, rfl, by kernel_rfl, by decide⟩
instance : TyField Try.prog 85 2 2 1 := ⟨_, _, Try.underlying85, rfl, rfl, by kernel_rfl, by decide⟩
instance : TyBuild Try.prog 85 [(0, 1), (1, 1), (2, 1)] := ⟨_, Try.underlying85, fun _ _ => by kernel_rfl⟩
instance : TyV Try.prog 86 true 3 (.agg #[(.string ⟨#[]⟩), (.int .i64 0), (.slice none 0 0)]) := ⟨by kernel_rfl, by kernel_rfl, by kernel_rfl⟩
instance : TyBytes Try.prog 86 48 := ⟨by kernel_rfl⟩
instance : TyField Try.prog 86 0 0 1 := ⟨_, _, Try.underlying86, rfl, rfl, by kernel_rfl, by decide⟩
instance : TyField Try.prog 86 1 1 1 := ⟨_, _, Try.underlying86, rfl, rfl, by kernel_rfl, by decide⟩
instance : TyField Try.prog 86 2 2 1 := ⟨_, _, Try.underlying86, rfl, rfl, by kernel_rfl, by decide⟩
instance : TyBuild Try.prog 86 [(0, 1), (1, 1), (2, 1)] := ⟨_, Try.underlying86, fun _ _ => by kernel_rfl⟩
instance : TyV Try.prog 87 true 2 (.agg #[(.slice none 0 0), (.int .i64 0)]) := ⟨by kernel_rfl, by kernel_rfl, by kernel_rfl⟩
instance : TyBytes Try.prog 87 32 := ⟨by kernel_rfl⟩
instance : TyField Try.prog 87 0 0 1 := ⟨_, _, Try.underlying87, rfl, rfl, by kernel_rfl, by decide⟩
instance : TyField Try.prog 87 1 1 1 := ⟨_, _, Try.underlying87, rfl, rfl, by kernel_rfl, by decide⟩
instance : TyBuild Try.prog 87 [(0, 1), (1, 1)] := ⟨_, Try.underlying87, fun _ _ => by kernel_rfl⟩
instance : TyV Try.prog 88 true 2 (.agg #[(.slice none 0 0), (.int .i64 0)]) := ⟨by kernel_rfl, by kernel_rfl, by kernel_rfl⟩
instance : TyBytes Try.prog 88 32 := ⟨by kernel_rfl⟩
instance : TyField Try.prog 88 0 0 1 := ⟨_, _, Try.underlying88, rfl, rfl, by kernel_rfl, by decide⟩
instance : TyField Try.prog 88 1 1 1 := ⟨_, _, Try.underlying88, rfl, rfl, by kernel_rfl, by decide⟩
instance : TyBuild Try.prog 88 [(0, 1), (1, 1)] := ⟨_, Try.underlying88, fun _ _ => by kernel_rfl⟩
instance : TyV Try.prog 89 true 2 (.agg #[(.slice none 0 0), (.string ⟨#[]⟩)]) := ⟨by kernel_rfl, by kernel_rfl, by kernel_rfl⟩
instance : TyBytes Try.prog 89 40 := ⟨by kernel_rfl⟩
instance : TyField Try.prog 89 0 0 1 := ⟨_, _, Try.underlying89, rfl, rfl, by kernel_rfl, by decide⟩
instance : TyField Try.prog 89 1 1 1 := ⟨_, _, Try.underlying89, rfl, rfl, by kernel_rfl, by decide⟩
instance : TyBuild Try.prog 89 [(0, 1), (1, 1)] := ⟨_, Try.underlying89, fun _ _ => by kernel_rfl⟩
instance : TyV Try.prog 90 true 2 (.agg #[(.slice none 0 0), (.string ⟨#[]⟩)]) := ⟨by kernel_rfl, by kernel_rfl, by kernel_rfl⟩
instance : TyBytes Try.prog 90 40 := ⟨by kernel_rfl⟩
instance : TyField Try.prog 90 0 0 1 := ⟨_, _, Try.underlying90, rfl, rfl, by kernel_rfl, by decide⟩
instance : TyField Try.prog 90 1 1 1 := ⟨_, _, Try.underlying90, rfl, rfl, by kernel_rfl, by decide⟩
instance : TyBuild Try.prog 90 [(0, 1), (1, 1)] := ⟨_, Try.underlying90, fun _ _ => by kernel_rfl⟩
instance : TyV Try.prog 91 true 4 (.agg #[(.string ⟨#[]⟩), (.int .i64 0), (.int .i64 0), (.slice none 0 0)]) := ⟨by kernel_rfl, by kernel_rfl, by kernel_rfl⟩
instance : TyBytes Try.prog 91 56 := ⟨by kernel_rfl⟩
instance : TyField Try.prog 91 0 0 1 := ⟨_, _, Try.underlying91, rfl, rfl, by kernel_rfl, by decide⟩
instance : TyField Try.prog 91 1 1 1 := ⟨_, _, Try.underlying91, rfl, rfl, by kernel_rfl, by decide⟩
instance : TyField Try.prog 91 2 2 1 := ⟨_, _, Try.underlying91, rfl, rfl, by kernel_rfl, by decide⟩
instance : TyField Try.prog 91 3 3 1 := ⟨_, _, Try.underlying91, rfl, rfl, by kernel_rfl, by decide⟩
instance : TyBuild Try.prog 91 [(0, 1), (1, 1), (2, 1), (3, 1)] := ⟨_, Try.underlying91, fun _ _ => by kernel_rfl⟩
instance : TyV Try.prog 92 true 4 (.agg #[(.string ⟨#[]⟩), (.int .i64 0), (.int .i64 0), (.slice none 0 0)]) := ⟨by kernel_rfl, by kernel_rfl, by kernel_rfl⟩
instance : TyBytes Try.prog 92 56 := ⟨by kernel_rfl⟩
instance : TyField Try.prog 92 0 0 1 := ⟨_, _, Try.underlying92, rfl, rfl, by kernel_rfl, by decide⟩
instance : TyField Try.prog 92 1 1 1 := ⟨_, _, Try.underlying92, rfl, rfl, by kernel_rfl, by decide⟩
instance : TyField Try.prog 92 2 2 1 := ⟨_, _, Try.underlying92, rfl, rfl, by kernel_rfl, by decide⟩
instance : TyField Try.prog 92 3 3 1 := ⟨_, _, Try.underlying92, rfl, rfl, by kernel_rfl, by decide⟩
instance : TyBuild Try.prog 92 [(0, 1), (1, 1), (2, 1), (3, 1)] := ⟨_, Try.underlying92, fun _ _ => by kernel_rfl⟩
instance : TyV Try.prog 93 true 3 (.agg #[(.string ⟨#[]⟩), (.string ⟨#[]⟩), (.int .i64 0)]) := ⟨by kernel_rfl, by kernel_rfl, by kernel_rfl⟩
instance : TyBytes Try.prog 93 40 := ⟨by kernel_rfl⟩
instance : TyField Try.prog 93 0 0 1 := ⟨_, _, Try.underlying93, rfl, rfl, by kernel_rfl, by decide⟩
instance : TyField Try.prog 93 1 1 1 := ⟨_, _, Try.underlying93, rfl, rfl, by kernel_rfl, by decide⟩
instance : TyField Try.prog 93 2 2 1 := ⟨_, _, Try.underlying93, rfl, rfl, by kernel_rfl, by decide⟩
instance : TyBuild Try.prog 93 [(0, 1), (1, 1), (2, 1)] := ⟨_, Try.underlying93, fun _ _ => by kernel_rfl⟩
instance : TyV Try.prog 94 true 3 (.agg #[(.string ⟨#[]⟩), (.string ⟨#[]⟩), (.int .i64 0)]) := ⟨by kernel_rfl, by kernel_rfl, by kernel_rfl⟩
instance : TyBytes Try.prog 94 40 := ⟨by kernel_rfl⟩
instance : TyField Try.prog 94 0 0 1 := ⟨_, _, Try.underlying94, rfl, rfl, by kernel_rfl, by decide⟩
instance : TyField Try.prog 94 1 1 1 := ⟨_, _, Try.underlying94, rfl, rfl, by kernel_rfl, by decide⟩
instance : TyField Try.prog 94 2 2 1 := ⟨_, _, Try.underlying94, rfl, rfl, by kernel_rfl, by decide⟩
instance : TyBuild Try.prog 94 [(0, 1), (1, 1), (2, 1)] := ⟨_, Try.underlying94, fun _ _ => by kernel_rfl⟩
instance : TyV Try.prog 95 false 1 (.pointer none) := ⟨by kernel_rfl, by kernel_rfl, by kernel_rfl⟩
instance : TyBytes Try.prog 95 8 := ⟨by kernel_rfl⟩
instance : FnOk Try.prog 3 := ⟨_, Try.func3, by kernel_rfl, by kernel_rfl⟩
instance : FnOk Try.prog 4 := ⟨_, Try.func4, by kernel_rfl, by kernel_rfl⟩
instance : FnOk Try.prog 5 := ⟨_, Try.func5, by kernel_rfl, by kernel_rfl⟩
instance : FnOk Try.prog 6 := ⟨_, Try.func6, by kernel_rfl, by kernel_rfl⟩
instance : FnOk Try.prog 7 := ⟨_, Try.func7, by kernel_rfl, by kernel_rfl⟩
instance : FnOk Try.prog 8 := ⟨_, Try.func8, by kernel_rfl, by kernel_rfl⟩
instance : FnOk Try.prog 9 := ⟨_, Try.func9, by kernel_rfl, by kernel_rfl⟩
instance : FnOk Try.prog 10 := ⟨_, Try.func10, by kernel_rfl, by kernel_rfl⟩
instance : FnOk Try.prog 11 := ⟨_, Try.func11, by kernel_rfl, by kernel_rfl⟩
instance : FnOk Try.prog 12 := ⟨_, Try.func12, by kernel_rfl, by kernel_rfl⟩
instance : FnOk Try.prog 13 := ⟨_, Try.func13, by kernel_rfl, by kernel_rfl⟩
instance : FnOk Try.prog 14 := ⟨_, Try.func14, by kernel_rfl, by kernel_rfl⟩
instance : FnOk Try.prog 15 := ⟨_, Try.func15, by kernel_rfl, by kernel_rfl⟩
instance : FnOk Try.prog 16 := ⟨_, Try.func16, by kernel_rfl, by kernel_rfl⟩
instance : FnOk Try.prog 17 := ⟨_, Try.func17, by kernel_rfl, by kernel_rfl⟩
instance : FnOk Try.prog 18 := ⟨_, Try.func18, by kernel_rfl, by kernel_rfl⟩
instance : FnOk Try.prog 19 := ⟨_, Try.func19, by kernel_rfl, by kernel_rfl⟩
instance : FnOk Try.prog 20 := ⟨_, Try.func20, by kernel_rfl, by kernel_rfl⟩
instance : FnOk Try.prog 21 := ⟨_, Try.func21, by kernel_rfl, by kernel_rfl⟩
instance : FnOk Try.prog 22 := ⟨_, Try.func22, by kernel_rfl, by kernel_rfl⟩
instance : FnOk Try.prog 23 := ⟨_, Try.func23, by kernel_rfl, by kernel_rfl⟩
instance : FnOk Try.prog 24 := ⟨_, Try.func24, by kernel_rfl, by kernel_rfl⟩
instance : FnOk Try.prog 25 := ⟨_, Try.func25, by kernel_rfl, by kernel_rfl⟩
instance : FnOk Try.prog 26 := ⟨_, Try.func26, by kernel_rfl, by kernel_rfl⟩
instance : FnOk Try.prog 27 := ⟨_, Try.func27, by kernel_rfl, by kernel_rfl⟩
instance : FnOk Try.prog 28 := ⟨_, Try.func28, by kernel_rfl, by kernel_rfl⟩
instance : FnOk Try.prog 29 := ⟨_, Try.func29, by kernel_rfl, by kernel_rfl⟩
instance : FnOk Try.prog 30 := ⟨_, Try.func30, by kernel_rfl, by kernel_rfl⟩
instance : FnOk Try.prog 31 := ⟨_, Try.func31, by kernel_rfl, by kernel_rfl⟩
end Go.Proofs.Ytopimbpclgejhaa
