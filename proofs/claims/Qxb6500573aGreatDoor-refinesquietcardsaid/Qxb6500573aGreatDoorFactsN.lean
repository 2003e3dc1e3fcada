/- Closed facts on structs within structs (made by program). -/
import Derived.Test.Qxb6500573aGreatDoorFacts
import Derived.Test.Qxb6500573aGreatDoorSlZ
namespace Go.Sl
open Go Go.Proofs
theorem BN127 : BldN Tryz.prog 127 [.int .i64 0, .int .i64 0, .int .u64 0, .string ⟨⟨[]⟩⟩, .int .i64 0] [(0, 1), (1, 3), (4, 1)] := by
  refine ⟨Tryz.zeroValue127, _, Tryz.underlying127, rfl, fun i f h => ?_⟩
  match i, h with
  | 0, h => cases h; exact ⟨_, rfl, Tryz.sizeOf3⟩
  | 1, h => cases h; exact ⟨_, rfl, Tryz.sizeOf42⟩
  | 2, h => cases h; exact ⟨_, rfl, Tryz.sizeOf30⟩
  | i + 3, h => simp at h
theorem BN142 : BldN Tryz.prog 142 [.pointer none, .pointer none, .slice none 0 0, .int .i64 0, .slice none 0 0, .slice none 0 0, .int .i64 0, .int .i64 0, .int .i64 0, .int .i64 0, .int .i64 0, .int .i64 0, .int .i64 0, .int .i64 0, .int .i64 0, .string ⟨⟨[]⟩⟩, .bool false, .int .i64 0, .int .i64 0, .int .i64 0, .string ⟨⟨[]⟩⟩, .string ⟨⟨[]⟩⟩] [(0, 1), (1, 1), (2, 1), (3, 1), (4, 1), (5, 1), (6, 5), (11, 1), (12, 1), (13, 1), (14, 1), (15, 1), (16, 1), (17, 5)] := by
  refine ⟨Tryz.zeroValue142, _, Tryz.underlying142, rfl, fun i f h => ?_⟩
  match i, h with
  | 0, h => cases h; exact ⟨_, rfl, Tryz.sizeOf78⟩
  | 1, h => cases h; exact ⟨_, rfl, Tryz.sizeOf80⟩
  | 2, h => cases h; exact ⟨_, rfl, Tryz.sizeOf65⟩
  | 3, h => cases h; exact ⟨_, rfl, Tryz.sizeOf3⟩
  | 4, h => cases h; exact ⟨_, rfl, Tryz.sizeOf138⟩
  | 5, h => cases h; exact ⟨_, rfl, Tryz.sizeOf139⟩
  | 6, h => cases h; exact ⟨_, rfl, Tryz.sizeOf140⟩
  | 7, h => cases h; exact ⟨_, rfl, Tryz.sizeOf3⟩
  | 8, h => cases h; exact ⟨_, rfl, Tryz.sizeOf3⟩
  | 9, h => cases h; exact ⟨_, rfl, Tryz.sizeOf3⟩
  | 10, h => cases h; exact ⟨_, rfl, Tryz.sizeOf3⟩
  | 11, h => cases h; exact ⟨_, rfl, Tryz.sizeOf9⟩
  | 12, h => cases h; exact ⟨_, rfl, Tryz.sizeOf4⟩
  | 13, h => cases h; exact ⟨_, rfl, Tryz.sizeOf32⟩
  | i + 14, h => simp at h
theorem BN170 : BldN Tryz.prog 170 [.slice none 0 0, .int .i64 0, .int .i64 0, .int .i64 0, .string ⟨⟨[]⟩⟩, .int .u64 0, .int .i64 0, .int .i64 0, .int .i64 0, .int .i64 0, .int .i64 0, .int .i64 0] [(0, 1), (1, 1), (2, 5), (7, 2), (9, 1), (10, 1), (11, 1)] := by
  refine ⟨Tryz.zeroValue170, _, Tryz.underlying170, rfl, fun i f h => ?_⟩
  match i, h with
  | 0, h => cases h; exact ⟨_, rfl, Tryz.sizeOf104⟩
  | 1, h => cases h; exact ⟨_, rfl, Tryz.sizeOf3⟩
  | 2, h => cases h; exact ⟨_, rfl, Tryz.sizeOf156⟩
  | 3, h => cases h; exact ⟨_, rfl, Tryz.sizeOf168⟩
  | 4, h => cases h; exact ⟨_, rfl, Tryz.sizeOf3⟩
  | 5, h => cases h; exact ⟨_, rfl, Tryz.sizeOf30⟩
  | 6, h => cases h; exact ⟨_, rfl, Tryz.sizeOf3⟩
  | i + 7, h => simp at h
theorem BN184 : BldN Tryz.prog 184 [.int .i64 0, .int .i64 0, .int .i64 0, .int .i64 0, .int .u64 0, .string ⟨⟨[]⟩⟩, .int .i64 0, .int .u64 0, .string ⟨⟨[]⟩⟩] [(0, 1), (1, 1), (2, 1), (3, 3), (6, 3)] := by
  refine ⟨Tryz.zeroValue184, _, Tryz.underlying184, rfl, fun i f h => ?_⟩
  match i, h with
  | 0, h => cases h; exact ⟨_, rfl, Tryz.sizeOf3⟩
  | 1, h => cases h; exact ⟨_, rfl, Tryz.sizeOf3⟩
  | 2, h => cases h; exact ⟨_, rfl, Tryz.sizeOf30⟩
  | 3, h => cases h; exact ⟨_, rfl, Tryz.sizeOf42⟩
  | 4, h => cases h; exact ⟨_, rfl, Tryz.sizeOf42⟩
  | i + 5, h => simp at h
theorem BN195 : BldN Tryz.prog 195 [.pointer none, .string ⟨⟨[]⟩⟩, .int .i64 0, .int .i64 0, .string ⟨⟨[]⟩⟩, .int .u64 0, .int .i64 0, .int .i64 0, .slice none 0 0, .int .i64 0, .int .i64 0, .int .i64 0, .int .i64 0, .int .i64 0] [(0, 1), (1, 1), (2, 1), (3, 5), (8, 1), (9, 1), (10, 1), (11, 1), (12, 1), (13, 1)] := by
  refine ⟨Tryz.zeroValue195, _, Tryz.underlying195, rfl, fun i f h => ?_⟩
  match i, h with
  | 0, h => cases h; exact ⟨_, rfl, Tryz.sizeOf78⟩
  | 1, h => cases h; exact ⟨_, rfl, Tryz.sizeOf9⟩
  | 2, h => cases h; exact ⟨_, rfl, Tryz.sizeOf3⟩
  | 3, h => cases h; exact ⟨_, rfl, Tryz.sizeOf193⟩
  | 4, h => cases h; exact ⟨_, rfl, Tryz.sizeOf65⟩
  | 5, h => cases h; exact ⟨_, rfl, Tryz.sizeOf30⟩
  | 6, h => cases h; exact ⟨_, rfl, Tryz.sizeOf3⟩
  | 7, h => cases h; exact ⟨_, rfl, Tryz.sizeOf3⟩
  | 8, h => cases h; exact ⟨_, rfl, Tryz.sizeOf3⟩
  | 9, h => cases h; exact ⟨_, rfl, Tryz.sizeOf3⟩
  | i + 10, h => simp at h
theorem BN199 : BldN Tryz.prog 199 [.int .i64 0, .int .u64 0, .string ⟨⟨[]⟩⟩, .int .i64 0, .int .u64 0, .string ⟨⟨[]⟩⟩] [(0, 3), (3, 3)] := by
  refine ⟨Tryz.zeroValue199, _, Tryz.underlying199, rfl, fun i f h => ?_⟩
  match i, h with
  | 0, h => cases h; exact ⟨_, rfl, Tryz.sizeOf42⟩
  | 1, h => cases h; exact ⟨_, rfl, Tryz.sizeOf42⟩
  | i + 2, h => simp at h
theorem BN204 : BldN Tryz.prog 204 [.string ⟨⟨[]⟩⟩, .int .i64 0, .int .u64 0, .string ⟨⟨[]⟩⟩, .pointer none] [(0, 1), (1, 3), (4, 1)] := by
  refine ⟨Tryz.zeroValue204, _, Tryz.underlying204, rfl, fun i f h => ?_⟩
  match i, h with
  | 0, h => cases h; exact ⟨_, rfl, Tryz.sizeOf9⟩
  | 1, h => cases h; exact ⟨_, rfl, Tryz.sizeOf42⟩
  | 2, h => cases h; exact ⟨_, rfl, Tryz.sizeOf146⟩
  | i + 3, h => simp at h
theorem BN257 : BldN Tryz.prog 257 [.int .i64 0, .int .u64 0, .string ⟨⟨[]⟩⟩, .int .i64 0, .int .u64 0, .string ⟨⟨[]⟩⟩] [(0, 3), (3, 3)] := by
  refine ⟨Tryz.zeroValue257, _, Tryz.underlying257, rfl, fun i f h => ?_⟩
  match i, h with
  | 0, h => cases h; exact ⟨_, rfl, Tryz.sizeOf42⟩
  | 1, h => cases h; exact ⟨_, rfl, Tryz.sizeOf42⟩
  | i + 2, h => simp at h
theorem BN287 : BldN Tryz.prog 287 [.int .i64 0, .int .i64 0, .int .i64 0, .int .u64 0, .string ⟨⟨[]⟩⟩] [(0, 1), (1, 1), (2, 3)] := by
  refine ⟨Tryz.zeroValue287, _, Tryz.underlying287, rfl, fun i f h => ?_⟩
  match i, h with
  | 0, h => cases h; exact ⟨_, rfl, Tryz.sizeOf3⟩
  | 1, h => cases h; exact ⟨_, rfl, Tryz.sizeOf3⟩
  | 2, h => cases h; exact ⟨_, rfl, Tryz.sizeOf42⟩
  | i + 3, h => simp at h
theorem BN335 : BldN Tryz.prog 335 [.int .i64 0, .int .u64 0, .string ⟨⟨[]⟩⟩] [(0, 3)] := by
  refine ⟨Tryz.zeroValue335, _, Tryz.underlying335, rfl, fun i f h => ?_⟩
  match i, h with
  | 0, h => cases h; exact ⟨_, rfl, Tryz.sizeOf42⟩
  | i + 1, h => simp at h
end Go.Sl
