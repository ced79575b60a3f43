/-
  What the translation says of its types and functions.
-/
import Derived.Test.YthjomdggdaocgaaGreatDoorProg
import Derived.Test.YthjomdggdaocgaaGreatDoorAlM
set_option linter.unusedVariables false
set_option linter.unusedSimpArgs false
namespace Go.Proofs.YthjomdggdaocgaaGreatDoor
open Go.RowKit
theorem ag110 : agB Tryz.prog 110 3 = true := by kernel_rfl
theorem ag140 : agB Tryz.prog 140 2 = true := by kernel_rfl
theorem ag143 : agB Tryz.prog 143 5 = true := by kernel_rfl
theorem ag164 : agB Tryz.prog 164 4 = true := by kernel_rfl
theorem ag181 : agB Tryz.prog 181 5 = true := by kernel_rfl
theorem ag183 : agB Tryz.prog 183 3 = true := by kernel_rfl
theorem ag191 : agB Tryz.prog 191 2 = true := by kernel_rfl
theorem ag200 : agB Tryz.prog 200 2 = true := by kernel_rfl
theorem ag214 : agB Tryz.prog 214 4 = true := by kernel_rfl
theorem ag219 : agB Tryz.prog 219 2 = true := by kernel_rfl
theorem ag25 : agB Tryz.prog 25 3 = true := by kernel_rfl
theorem ag31 : agB Tryz.prog 31 3 = true := by kernel_rfl
theorem ag37 : agB Tryz.prog 37 1 = true := by kernel_rfl
theorem ag40 : agB Tryz.prog 40 2 = true := by kernel_rfl
theorem ag43 : agB Tryz.prog 43 2 = true := by kernel_rfl
theorem ag46 : agB Tryz.prog 46 5 = true := by kernel_rfl
theorem ag48 : agB Tryz.prog 48 12 = true := by kernel_rfl
theorem ag86 : agB Tryz.prog 86 1 = true := by kernel_rfl
theorem ag89 : agB Tryz.prog 89 2 = true := by kernel_rfl
theorem ag90 : agB Tryz.prog 90 2 = true := by kernel_rfl
theorem ag93 : agB Tryz.prog 93 5 = true := by kernel_rfl
theorem ag95 : agB Tryz.prog 95 12 = true := by kernel_rfl
theorem eq140 {a0 a1 b0 b1 : Int} {w : World} : (Op.equal 140 (.agg [.int .i64 a0, .int .i64 a1].toArray) (.agg [.int .i64 b0, .int .i64 b1].toArray)).run Tryz.prog w = .ok (decide ((a0, a1) = (b0, b1))) w := eq_pair Tryz.underlying140 (by kernel_rfl) (by decide) Tryz.underlying2 Tryz.underlying2 (by kernel_rfl) (by kernel_rfl)
theorem eq164 {a0 a1 a2 a3 b0 b1 b2 b3 : Bool} {w : World} : (Op.equal 164 (.agg [.bool a0, .bool a1, .bool a2, .bool a3].toArray) (.agg [.bool b0, .bool b1, .bool b2, .bool b3].toArray)).run Tryz.prog w = .ok (decide ((a0, a1, a2, a3) = (b0, b1, b2, b3))) w := by
  obtain ⟨i, hi, _⟩ := Option.map_eq_some_iff.1 (by kernel_rfl : (Tryz.prog.info? 4).map (·.size) = some 1)
  exact eq_four Tryz.underlying164 hi (by kernel_rfl) Tryz.underlying4 (by kernel_rfl)
theorem fl110_0 : ∀ (ad : Addr) (w : World), (Instr.fieldAt 110 (.pointer (some ad)) 0).run Tryz.prog w = .ok (.pointer (some (ad.add 0))) w := fun _ _ => by kernel_rfl
theorem fl110_1 : ∀ (ad : Addr) (w : World), (Instr.fieldAt 110 (.pointer (some ad)) 1).run Tryz.prog w = .ok (.pointer (some (ad.add 1))) w := fun _ _ => by kernel_rfl
theorem fl110_2 : ∀ (ad : Addr) (w : World), (Instr.fieldAt 110 (.pointer (some ad)) 2).run Tryz.prog w = .ok (.pointer (some (ad.add 2))) w := fun _ _ => by kernel_rfl
theorem fl140_0 : ∀ (ad : Addr) (w : World), (Instr.fieldAt 140 (.pointer (some ad)) 0).run Tryz.prog w = .ok (.pointer (some (ad.add 0))) w := fun _ _ => by kernel_rfl
theorem fl140_1 : ∀ (ad : Addr) (w : World), (Instr.fieldAt 140 (.pointer (some ad)) 1).run Tryz.prog w = .ok (.pointer (some (ad.add 1))) w := fun _ _ => by kernel_rfl
theorem fl143_0 : ∀ (ad : Addr) (w : World), (Instr.fieldAt 143 (.pointer (some ad)) 0).run Tryz.prog w = .ok (.pointer (some (ad.add 0))) w := fun _ _ => by kernel_rfl
theorem fl143_1 : ∀ (ad : Addr) (w : World), (Instr.fieldAt 143 (.pointer (some ad)) 1).run Tryz.prog w = .ok (.pointer (some (ad.add 1))) w := fun _ _ => by kernel_rfl
theorem fl143_2 : ∀ (ad : Addr) (w : World), (Instr.fieldAt 143 (.pointer (some ad)) 2).run Tryz.prog w = .ok (.pointer (some (ad.add 2))) w := fun _ _ => by kernel_rfl
theorem fl143_3 : ∀ (ad : Addr) (w : World), (Instr.fieldAt 143 (.pointer (some ad)) 3).run Tryz.prog w = .ok (.pointer (some (ad.add 3))) w := fun _ _ => by kernel_rfl
theorem fl143_4 : ∀ (ad : Addr) (w : World), (Instr.fieldAt 143 (.pointer (some ad)) 4).run Tryz.prog w = .ok (.pointer (some (ad.add 4))) w := fun _ _ => by kernel_rfl
theorem fl181_0 : ∀ (ad : Addr) (w : World), (Instr.fieldAt 181 (.pointer (some ad)) 0).run Tryz.prog w = .ok (.pointer (some (ad.add 0))) w := fun _ _ => by kernel_rfl
theorem fl181_1 : ∀ (ad : Addr) (w : World), (Instr.fieldAt 181 (.pointer (some ad)) 1).run Tryz.prog w = .ok (.pointer (some (ad.add 1))) w := fun _ _ => by kernel_rfl
theorem fl181_2 : ∀ (ad : Addr) (w : World), (Instr.fieldAt 181 (.pointer (some ad)) 2).run Tryz.prog w = .ok (.pointer (some (ad.add 2))) w := fun _ _ => by kernel_rfl
theorem fl181_3 : ∀ (ad : Addr) (w : World), (Instr.fieldAt 181 (.pointer (some ad)) 3).run Tryz.prog w = .ok (.pointer (some (ad.add 3))) w := fun _ _ => by kernel_rfl
theorem fl181_4 : ∀ (ad : Addr) (w : World), (Instr.fieldAt 181 (.pointer (some ad)) 4).run Tryz.prog w = .ok (.pointer (some (ad.add 4))) w := fun _ _ => by kernel_rfl
theorem fl183_0 : ∀ (ad : Addr) (w : World), (Instr.fieldAt 183 (.pointer (some ad)) 0).run Tryz.prog w = .ok (.pointer (some (ad.add 0))) w := fun _ _ => by kernel_rfl
theorem fl183_1 : ∀ (ad : Addr) (w : World), (Instr.fieldAt 183 (.pointer (some ad)) 1).run Tryz.prog w = .ok (.pointer (some (ad.add 1))) w := fun _ _ => by kernel_rfl
theorem fl183_2 : ∀ (ad : Addr) (w : World), (Instr.fieldAt 183 (.pointer (some ad)) 2).run Tryz.prog w = .ok (.pointer (some (ad.add 2))) w := fun _ _ => by kernel_rfl
theorem fl191_0 : ∀ (ad : Addr) (w : World), (Instr.fieldAt 191 (.pointer (some ad)) 0).run Tryz.prog w = .ok (.pointer (some (ad.add 0))) w := fun _ _ => by kernel_rfl
theorem fl191_1 : ∀ (ad : Addr) (w : World), (Instr.fieldAt 191 (.pointer (some ad)) 1).run Tryz.prog w = .ok (.pointer (some (ad.add 1))) w := fun _ _ => by kernel_rfl
theorem fl200_0 : ∀ (ad : Addr) (w : World), (Instr.fieldAt 200 (.pointer (some ad)) 0).run Tryz.prog w = .ok (.pointer (some (ad.add 0))) w := fun _ _ => by kernel_rfl
theorem fl200_1 : ∀ (ad : Addr) (w : World), (Instr.fieldAt 200 (.pointer (some ad)) 1).run Tryz.prog w = .ok (.pointer (some (ad.add 1))) w := fun _ _ => by kernel_rfl
theorem fl219_0 : ∀ (ad : Addr) (w : World), (Instr.fieldAt 219 (.pointer (some ad)) 0).run Tryz.prog w = .ok (.pointer (some (ad.add 0))) w := fun _ _ => by kernel_rfl
theorem fl219_1 : ∀ (ad : Addr) (w : World), (Instr.fieldAt 219 (.pointer (some ad)) 1).run Tryz.prog w = .ok (.pointer (some (ad.add 1))) w := fun _ _ => by kernel_rfl
theorem fl25_0 : ∀ (ad : Addr) (w : World), (Instr.fieldAt 25 (.pointer (some ad)) 0).run Tryz.prog w = .ok (.pointer (some (ad.add 0))) w := fun _ _ => by kernel_rfl
theorem fl25_1 : ∀ (ad : Addr) (w : World), (Instr.fieldAt 25 (.pointer (some ad)) 1).run Tryz.prog w = .ok (.pointer (some (ad.add 1))) w := fun _ _ => by kernel_rfl
theorem fl25_2 : ∀ (ad : Addr) (w : World), (Instr.fieldAt 25 (.pointer (some ad)) 2).run Tryz.prog w = .ok (.pointer (some (ad.add 2))) w := fun _ _ => by kernel_rfl
theorem fl31_0 : ∀ (ad : Addr) (w : World), (Instr.fieldAt 31 (.pointer (some ad)) 0).run Tryz.prog w = .ok (.pointer (some (ad.add 0))) w := fun _ _ => by kernel_rfl
theorem fl31_1 : ∀ (ad : Addr) (w : World), (Instr.fieldAt 31 (.pointer (some ad)) 1).run Tryz.prog w = .ok (.pointer (some (ad.add 1))) w := fun _ _ => by kernel_rfl
theorem fl31_2 : ∀ (ad : Addr) (w : World), (Instr.fieldAt 31 (.pointer (some ad)) 2).run Tryz.prog w = .ok (.pointer (some (ad.add 2))) w := fun _ _ => by kernel_rfl
theorem fl37_0 : ∀ (ad : Addr) (w : World), (Instr.fieldAt 37 (.pointer (some ad)) 0).run Tryz.prog w = .ok (.pointer (some (ad.add 0))) w := fun _ _ => by kernel_rfl
theorem fl40_0 : ∀ (ad : Addr) (w : World), (Instr.fieldAt 40 (.pointer (some ad)) 0).run Tryz.prog w = .ok (.pointer (some (ad.add 0))) w := fun _ _ => by kernel_rfl
theorem fl40_1 : ∀ (ad : Addr) (w : World), (Instr.fieldAt 40 (.pointer (some ad)) 1).run Tryz.prog w = .ok (.pointer (some (ad.add 1))) w := fun _ _ => by kernel_rfl
theorem fl43_0 : ∀ (ad : Addr) (w : World), (Instr.fieldAt 43 (.pointer (some ad)) 0).run Tryz.prog w = .ok (.pointer (some (ad.add 0))) w := fun _ _ => by kernel_rfl
theorem fl43_1 : ∀ (ad : Addr) (w : World), (Instr.fieldAt 43 (.pointer (some ad)) 1).run Tryz.prog w = .ok (.pointer (some (ad.add 1))) w := fun _ _ => by kernel_rfl
theorem fl46_0 : ∀ (ad : Addr) (w : World), (Instr.fieldAt 46 (.pointer (some ad)) 0).run Tryz.prog w = .ok (.pointer (some (ad.add 0))) w := fun _ _ => by kernel_rfl
theorem fl46_1 : ∀ (ad : Addr) (w : World), (Instr.fieldAt 46 (.pointer (some ad)) 1).run Tryz.prog w = .ok (.pointer (some (ad.add 1))) w := fun _ _ => by kernel_rfl
theorem fl46_2 : ∀ (ad : Addr) (w : World), (Instr.fieldAt 46 (.pointer (some ad)) 2).run Tryz.prog w = .ok (.pointer (some (ad.add 2))) w := fun _ _ => by kernel_rfl
theorem fl46_3 : ∀ (ad : Addr) (w : World), (Instr.fieldAt 46 (.pointer (some ad)) 3).run Tryz.prog w = .ok (.pointer (some (ad.add 3))) w := fun _ _ => by kernel_rfl
theorem fl46_4 : ∀ (ad : Addr) (w : World), (Instr.fieldAt 46 (.pointer (some ad)) 4).run Tryz.prog w = .ok (.pointer (some (ad.add 4))) w := fun _ _ => by kernel_rfl
theorem fl48_0 : ∀ (ad : Addr) (w : World), (Instr.fieldAt 48 (.pointer (some ad)) 0).run Tryz.prog w = .ok (.pointer (some (ad.add 0))) w := fun _ _ => by kernel_rfl
theorem fl48_1 : ∀ (ad : Addr) (w : World), (Instr.fieldAt 48 (.pointer (some ad)) 1).run Tryz.prog w = .ok (.pointer (some (ad.add 1))) w := fun _ _ => by kernel_rfl
theorem fl48_2 : ∀ (ad : Addr) (w : World), (Instr.fieldAt 48 (.pointer (some ad)) 2).run Tryz.prog w = .ok (.pointer (some (ad.add 2))) w := fun _ _ => by kernel_rfl
theorem fl48_3 : ∀ (ad : Addr) (w : World), (Instr.fieldAt 48 (.pointer (some ad)) 3).run Tryz.prog w = .ok (.pointer (some (ad.add 3))) w := fun _ _ => by kernel_rfl
theorem fl48_4 : ∀ (ad : Addr) (w : World), (Instr.fieldAt 48 (.pointer (some ad)) 4).run Tryz.prog w = .ok (.pointer (some (ad.add 5))) w := fun _ _ => by kernel_rfl
theorem fl48_5 : ∀ (ad : Addr) (w : World), (Instr.fieldAt 48 (.pointer (some ad)) 5).run Tryz.prog w = .ok (.pointer (some (ad.add 7))) w := fun _ _ => by kernel_rfl
theorem fl86_0 : ∀ (ad : Addr) (w : World), (Instr.fieldAt 86 (.pointer (some ad)) 0).run Tryz.prog w = .ok (.pointer (some (ad.add 0))) w := fun _ _ => by kernel_rfl
theorem fl89_0 : ∀ (ad : Addr) (w : World), (Instr.fieldAt 89 (.pointer (some ad)) 0).run Tryz.prog w = .ok (.pointer (some (ad.add 0))) w := fun _ _ => by kernel_rfl
theorem fl89_1 : ∀ (ad : Addr) (w : World), (Instr.fieldAt 89 (.pointer (some ad)) 1).run Tryz.prog w = .ok (.pointer (some (ad.add 1))) w := fun _ _ => by kernel_rfl
theorem fl90_0 : ∀ (ad : Addr) (w : World), (Instr.fieldAt 90 (.pointer (some ad)) 0).run Tryz.prog w = .ok (.pointer (some (ad.add 0))) w := fun _ _ => by kernel_rfl
theorem fl90_1 : ∀ (ad : Addr) (w : World), (Instr.fieldAt 90 (.pointer (some ad)) 1).run Tryz.prog w = .ok (.pointer (some (ad.add 1))) w := fun _ _ => by kernel_rfl
theorem fl93_0 : ∀ (ad : Addr) (w : World), (Instr.fieldAt 93 (.pointer (some ad)) 0).run Tryz.prog w = .ok (.pointer (some (ad.add 0))) w := fun _ _ => by kernel_rfl
theorem fl93_1 : ∀ (ad : Addr) (w : World), (Instr.fieldAt 93 (.pointer (some ad)) 1).run Tryz.prog w = .ok (.pointer (some (ad.add 1))) w := fun _ _ => by kernel_rfl
theorem fl93_2 : ∀ (ad : Addr) (w : World), (Instr.fieldAt 93 (.pointer (some ad)) 2).run Tryz.prog w = .ok (.pointer (some (ad.add 2))) w := fun _ _ => by kernel_rfl
theorem fl93_3 : ∀ (ad : Addr) (w : World), (Instr.fieldAt 93 (.pointer (some ad)) 3).run Tryz.prog w = .ok (.pointer (some (ad.add 3))) w := fun _ _ => by kernel_rfl
theorem fl93_4 : ∀ (ad : Addr) (w : World), (Instr.fieldAt 93 (.pointer (some ad)) 4).run Tryz.prog w = .ok (.pointer (some (ad.add 4))) w := fun _ _ => by kernel_rfl
theorem fl95_0 : ∀ (ad : Addr) (w : World), (Instr.fieldAt 95 (.pointer (some ad)) 0).run Tryz.prog w = .ok (.pointer (some (ad.add 0))) w := fun _ _ => by kernel_rfl
theorem fl95_1 : ∀ (ad : Addr) (w : World), (Instr.fieldAt 95 (.pointer (some ad)) 1).run Tryz.prog w = .ok (.pointer (some (ad.add 1))) w := fun _ _ => by kernel_rfl
theorem fl95_2 : ∀ (ad : Addr) (w : World), (Instr.fieldAt 95 (.pointer (some ad)) 2).run Tryz.prog w = .ok (.pointer (some (ad.add 2))) w := fun _ _ => by kernel_rfl
theorem fl95_3 : ∀ (ad : Addr) (w : World), (Instr.fieldAt 95 (.pointer (some ad)) 3).run Tryz.prog w = .ok (.pointer (some (ad.add 3))) w := fun _ _ => by kernel_rfl
theorem fl95_4 : ∀ (ad : Addr) (w : World), (Instr.fieldAt 95 (.pointer (some ad)) 4).run Tryz.prog w = .ok (.pointer (some (ad.add 5))) w := fun _ _ => by kernel_rfl
theorem fl95_5 : ∀ (ad : Addr) (w : World), (Instr.fieldAt 95 (.pointer (some ad)) 5).run Tryz.prog w = .ok (.pointer (some (ad.add 7))) w := fun _ _ => by kernel_rfl
theorem inf110 : (Tryz.prog.info? 110).map (fun i => (i.zero, i.size, i.bytes)) = some (some (.agg #[.int .i64 0, .int .i64 0, .int .i64 0]), 3, 24) := by kernel_rfl
theorem inf136 : (Tryz.prog.info? 136).map (fun i => (i.zero, i.size, i.bytes)) = some (some (.slice none 0 0), 1, 24) := by kernel_rfl
theorem inf140 : (Tryz.prog.info? 140).map (fun i => (i.zero, i.size, i.bytes)) = some (some (.agg #[.int .i64 0, .int .i64 0]), 2, 16) := by kernel_rfl
theorem inf143 : (Tryz.prog.info? 143).map (fun i => (i.zero, i.size, i.bytes)) = some (some (.agg #[.int .i64 0, .int .i64 0, .int .i64 0, .int .i64 0, .int .i64 0]), 5, 40) := by kernel_rfl
theorem inf2 : (Tryz.prog.info? 2).map (fun i => (i.zero, i.size, i.bytes)) = some (some (.int .i64 0), 1, 8) := by kernel_rfl
theorem inf219 : (Tryz.prog.info? 219).map (fun i => (i.zero, i.size, i.bytes)) = some (some (.agg #[.int .i64 0, .int .i64 0]), 2, 16) := by kernel_rfl
theorem inf28 : (Tryz.prog.info? 28).map (fun i => (i.zero, i.size, i.bytes)) = some (some (.slice none 0 0), 1, 24) := by kernel_rfl
theorem inf4 : (Tryz.prog.info? 4).map (fun i => (i.zero, i.size, i.bytes)) = some (some (.bool false), 1, 1) := by kernel_rfl
theorem inf41 : (Tryz.prog.info? 41).map (fun i => (i.zero, i.size, i.bytes)) = some (some (.slice none 0 0), 1, 24) := by kernel_rfl
theorem inf48 : (Tryz.prog.info? 48).map (fun i => (i.zero, i.size, i.bytes)) = some (some (.agg #[.string ByteArray.empty, .int .i64 0, .slice none 0 0, .slice none 0 0, .int .i64 0, .int .i64 0, .slice none 0 0, .int .i64 0, .int .i64 0, .slice none 0 0, .slice none 0 0, .slice none 0 0]), 12, 200) := by kernel_rfl
theorem na136 : naB Tryz.prog 136 = true := by kernel_rfl
theorem na168 : naB Tryz.prog 168 = true := by kernel_rfl
theorem na189 : naB Tryz.prog 189 = true := by kernel_rfl
theorem na2 : naB Tryz.prog 2 = true := by kernel_rfl
theorem na22 : naB Tryz.prog 22 = true := by kernel_rfl
theorem na23 : naB Tryz.prog 23 = true := by kernel_rfl
theorem na28 : naB Tryz.prog 28 = true := by kernel_rfl
theorem na29 : naB Tryz.prog 29 = true := by kernel_rfl
theorem na35 : naB Tryz.prog 35 = true := by kernel_rfl
theorem na38 : naB Tryz.prog 38 = true := by kernel_rfl
theorem na4 : naB Tryz.prog 4 = true := by kernel_rfl
theorem na41 : naB Tryz.prog 41 = true := by kernel_rfl
theorem na44 : naB Tryz.prog 44 = true := by kernel_rfl
theorem na84 : naB Tryz.prog 84 = true := by kernel_rfl
theorem na87 : naB Tryz.prog 87 = true := by kernel_rfl
theorem na9 : naB Tryz.prog 9 = true := by kernel_rfl
theorem na91 : naB Tryz.prog 91 = true := by kernel_rfl
theorem ng140 : Tryz.prog.eqGuardType Tryz.prog.depth 140 = false := by kernel_rfl
theorem ng164 : Tryz.prog.eqGuardType Tryz.prog.depth 164 = false := by kernel_rfl
theorem sz110 : (Tryz.prog.info? 110).map (·.size) = some 3 := by kernel_rfl
theorem sz136 : (Tryz.prog.info? 136).map (·.size) = some 1 := by kernel_rfl
theorem sz140 : (Tryz.prog.info? 140).map (·.size) = some 2 := by kernel_rfl
theorem sz143 : (Tryz.prog.info? 143).map (·.size) = some 5 := by kernel_rfl
theorem sz168 : (Tryz.prog.info? 168).map (·.size) = some 1 := by kernel_rfl
theorem sz181 : (Tryz.prog.info? 181).map (·.size) = some 5 := by kernel_rfl
theorem sz183 : (Tryz.prog.info? 183).map (·.size) = some 3 := by kernel_rfl
theorem sz2 : (Tryz.prog.info? 2).map (·.size) = some 1 := by kernel_rfl
theorem sz200 : (Tryz.prog.info? 200).map (·.size) = some 2 := by kernel_rfl
theorem sz219 : (Tryz.prog.info? 219).map (·.size) = some 2 := by kernel_rfl
theorem sz22 : (Tryz.prog.info? 22).map (·.size) = some 1 := by kernel_rfl
theorem sz28 : (Tryz.prog.info? 28).map (·.size) = some 1 := by kernel_rfl
theorem sz29 : (Tryz.prog.info? 29).map (·.size) = some 1 := by kernel_rfl
theorem sz4 : (Tryz.prog.info? 4).map (·.size) = some 1 := by kernel_rfl
theorem sz48 : (Tryz.prog.info? 48).map (·.size) = some 12 := by kernel_rfl
theorem sz9 : (Tryz.prog.info? 9).map (·.size) = some 1 := by kernel_rfl
theorem sz95 : (Tryz.prog.info? 95).map (·.size) = some 12 := by kernel_rfl
theorem zr110 : (Tryz.prog.info? 110).map (·.zero) = some (some (.agg #[.int .i64 0, .int .i64 0, .int .i64 0])) := by kernel_rfl
theorem zr140 : (Tryz.prog.info? 140).map (·.zero) = some (some (.agg #[.int .i64 0, .int .i64 0])) := by kernel_rfl
theorem zr143 : (Tryz.prog.info? 143).map (·.zero) = some (some (.agg #[.int .i64 0, .int .i64 0, .int .i64 0, .int .i64 0, .int .i64 0])) := by kernel_rfl
theorem zr164 : (Tryz.prog.info? 164).map (·.zero) = some (some (.agg #[.bool false, .bool false, .bool false, .bool false])) := by kernel_rfl
theorem zr191 : (Tryz.prog.info? 191).map (·.zero) = some (some (.agg #[.slice none 0 0, .slice none 0 0])) := by kernel_rfl
theorem zr2 : (Tryz.prog.info? 2).map (·.zero) = some (some (.int .i64 0)) := by kernel_rfl
theorem zr214 : (Tryz.prog.info? 214).map (·.zero) = some (some (.agg #[.int .i64 0, .int .i64 0, .int .i64 0, .int .i64 0])) := by kernel_rfl
theorem zr219 : (Tryz.prog.info? 219).map (·.zero) = some (some (.agg #[.int .i64 0, .int .i64 0])) := by kernel_rfl
theorem zr238 : (Tryz.prog.info? 238).map (·.zero) = some (some (.agg #[.int .u8 0, .int .u8 0, .int .u8 0, .int .u8 0, .int .u8 0, .int .u8 0, .int .u8 0, .int .u8 0, .int .u8 0, .int .u8 0, .int .u8 0, .int .u8 0, .int .u8 0, .int .u8 0, .int .u8 0, .int .u8 0, .int .u8 0, .int .u8 0, .int .u8 0, .int .u8 0, .int .u8 0, .int .u8 0, .int .u8 0, .int .u8 0])) := by kernel_rfl
theorem zr31 : (Tryz.prog.info? 31).map (·.zero) = some (some (.agg #[.slice none 0 0, .slice none 0 0, .slice none 0 0])) := by kernel_rfl
theorem zr37 : (Tryz.prog.info? 37).map (·.zero) = some (some (.agg #[.slice none 0 0])) := by kernel_rfl
theorem zr40 : (Tryz.prog.info? 40).map (·.zero) = some (some (.agg #[.slice none 0 0, .int .i64 0])) := by kernel_rfl
theorem zr43 : (Tryz.prog.info? 43).map (·.zero) = some (some (.agg #[.int .i64 0, .slice none 0 0])) := by kernel_rfl
theorem zr46 : (Tryz.prog.info? 46).map (·.zero) = some (some (.agg #[.int .i64 0, .int .i64 0, .slice none 0 0, .slice none 0 0, .slice none 0 0])) := by kernel_rfl
theorem zr48 : (Tryz.prog.info? 48).map (·.zero) = some (some (.agg #[.string ByteArray.empty, .int .i64 0, .slice none 0 0, .slice none 0 0, .int .i64 0, .int .i64 0, .slice none 0 0, .int .i64 0, .int .i64 0, .slice none 0 0, .slice none 0 0, .slice none 0 0])) := by kernel_rfl
theorem fok7 : (Tryz.f7.name == "runtime.NumGoroutine") = false ∧ Tryz.f7.body.isNone = false := ⟨by kernel_rfl, rfl⟩
theorem fok8 : (Tryz.f8.name == "runtime.NumGoroutine") = false ∧ Tryz.f8.body.isNone = false := ⟨by kernel_rfl, rfl⟩
theorem fok9 : (Tryz.f9.name == "runtime.NumGoroutine") = false ∧ Tryz.f9.body.isNone = false := ⟨by kernel_rfl, rfl⟩
theorem fok10 : (Tryz.f10.name == "runtime.NumGoroutine") = false ∧ Tryz.f10.body.isNone = false := ⟨by kernel_rfl, rfl⟩
theorem fok11 : (Tryz.f11.name == "runtime.NumGoroutine") = false ∧ Tryz.f11.body.isNone = false := ⟨by kernel_rfl, rfl⟩
theorem fok14 : (Tryz.f14.name == "runtime.NumGoroutine") = false ∧ Tryz.f14.body.isNone = false := ⟨by kernel_rfl, rfl⟩
theorem fok23 : (Tryz.f23.name == "runtime.NumGoroutine") = false ∧ Tryz.f23.body.isNone = false := ⟨by kernel_rfl, rfl⟩
theorem fok24 : (Tryz.f24.name == "runtime.NumGoroutine") = false ∧ Tryz.f24.body.isNone = false := ⟨by kernel_rfl, rfl⟩
theorem fok25 : (Tryz.f25.name == "runtime.NumGoroutine") = false ∧ Tryz.f25.body.isNone = false := ⟨by kernel_rfl, rfl⟩
theorem fok26 : (Tryz.f26.name == "runtime.NumGoroutine") = false ∧ Tryz.f26.body.isNone = false := ⟨by kernel_rfl, rfl⟩
theorem fok27 : (Tryz.f27.name == "runtime.NumGoroutine") = false ∧ Tryz.f27.body.isNone = false := ⟨by kernel_rfl, rfl⟩
theorem fok28 : (Tryz.f28.name == "runtime.NumGoroutine") = false ∧ Tryz.f28.body.isNone = false := ⟨by kernel_rfl, rfl⟩
theorem fok29 : (Tryz.f29.name == "runtime.NumGoroutine") = false ∧ Tryz.f29.body.isNone = false := ⟨by kernel_rfl, rfl⟩
theorem fok30 : (Tryz.f30.name == "runtime.NumGoroutine") = false ∧ Tryz.f30.body.isNone = false := ⟨by kernel_rfl, rfl⟩
theorem fok31 : (Tryz.f31.name == "runtime.NumGoroutine") = false ∧ Tryz.f31.body.isNone = false := ⟨by kernel_rfl, rfl⟩
theorem fok36 : (Tryz.f36.name == "runtime.NumGoroutine") = false ∧ Tryz.f36.body.isNone = false := ⟨by kernel_rfl, rfl⟩
theorem fok37 : (Tryz.f37.name == "runtime.NumGoroutine") = false ∧ Tryz.f37.body.isNone = false := ⟨by kernel_rfl, rfl⟩
theorem fok38 : (Tryz.f38.name == "runtime.NumGoroutine") = false ∧ Tryz.f38.body.isNone = false := ⟨by kernel_rfl, rfl⟩
theorem fok39 : (Tryz.f39.name == "runtime.NumGoroutine") = false ∧ Tryz.f39.body.isNone = false := ⟨by kernel_rfl, rfl⟩
theorem fok57 : (Tryz.f57.name == "runtime.NumGoroutine") = false ∧ Tryz.f57.body.isNone = false := ⟨by kernel_rfl, rfl⟩
theorem fok58 : (Tryz.f58.name == "runtime.NumGoroutine") = false ∧ Tryz.f58.body.isNone = false := ⟨by kernel_rfl, rfl⟩
theorem fok59 : (Tryz.f59.name == "runtime.NumGoroutine") = false ∧ Tryz.f59.body.isNone = false := ⟨by kernel_rfl, rfl⟩
theorem fok60 : (Tryz.f60.name == "runtime.NumGoroutine") = false ∧ Tryz.f60.body.isNone = false := ⟨by kernel_rfl, rfl⟩
theorem fok61 : (Tryz.f61.name == "runtime.NumGoroutine") = false ∧ Tryz.f61.body.isNone = false := ⟨by kernel_rfl, rfl⟩
theorem fok62 : (Tryz.f62.name == "runtime.NumGoroutine") = false ∧ Tryz.f62.body.isNone = false := ⟨by kernel_rfl, rfl⟩
theorem fok72 : (Tryz.f72.name == "runtime.NumGoroutine") = false ∧ Tryz.f72.body.isNone = false := ⟨by kernel_rfl, rfl⟩
theorem fok73 : (Tryz.f73.name == "runtime.NumGoroutine") = false ∧ Tryz.f73.body.isNone = false := ⟨by kernel_rfl, rfl⟩
theorem fok74 : (Tryz.f74.name == "runtime.NumGoroutine") = false ∧ Tryz.f74.body.isNone = false := ⟨by kernel_rfl, rfl⟩
theorem fok75 : (Tryz.f75.name == "runtime.NumGoroutine") = false ∧ Tryz.f75.body.isNone = false := ⟨by kernel_rfl, rfl⟩
theorem fok87 : (Tryz.f87.name == "runtime.NumGoroutine") = false ∧ Tryz.f87.body.isNone = false := ⟨by kernel_rfl, rfl⟩
theorem fok88 : (Tryz.f88.name == "runtime.NumGoroutine") = false ∧ Tryz.f88.body.isNone = false := ⟨by kernel_rfl, rfl⟩
theorem fok89 : (Tryz.f89.name == "runtime.NumGoroutine") = false ∧ Tryz.f89.body.isNone = false := ⟨by kernel_rfl, rfl⟩
theorem fok90 : (Tryz.f90.name == "runtime.NumGoroutine") = false ∧ Tryz.f90.body.isNone = false := ⟨by kernel_rfl, rfl⟩
theorem fok91 : (Tryz.f91.name == "runtime.NumGoroutine") = false ∧ Tryz.f91.body.isNone = false := ⟨by kernel_rfl, rfl⟩
theorem fok92 : (Tryz.f92.name == "runtime.NumGoroutine") = false ∧ Tryz.f92.body.isNone = false := ⟨by kernel_rfl, rfl⟩
theorem fok93 : (Tryz.f93.name == "runtime.NumGoroutine") = false ∧ Tryz.f93.body.isNone = false := ⟨by kernel_rfl, rfl⟩
theorem fok94 : (Tryz.f94.name == "runtime.NumGoroutine") = false ∧ Tryz.f94.body.isNone = false := ⟨by kernel_rfl, rfl⟩
theorem fok95 : (Tryz.f95.name == "runtime.NumGoroutine") = false ∧ Tryz.f95.body.isNone = false := ⟨by kernel_rfl, rfl⟩
theorem fok96 : (Tryz.f96.name == "runtime.NumGoroutine") = false ∧ Tryz.f96.body.isNone = false := ⟨by kernel_rfl, rfl⟩
theorem fok97 : (Tryz.f97.name == "runtime.NumGoroutine") = false ∧ Tryz.f97.body.isNone = false := ⟨by kernel_rfl, rfl⟩
theorem fok98 : (Tryz.f98.name == "runtime.NumGoroutine") = false ∧ Tryz.f98.body.isNone = false := ⟨by kernel_rfl, rfl⟩
theorem fok99 : (Tryz.f99.name == "runtime.NumGoroutine") = false ∧ Tryz.f99.body.isNone = false := ⟨by kernel_rfl, rfl⟩
theorem fok100 : (Tryz.f100.name == "runtime.NumGoroutine") = false ∧ Tryz.f100.body.isNone = false := ⟨by kernel_rfl, rfl⟩
theorem fok101 : (Tryz.f101.name == "runtime.NumGoroutine") = false ∧ Tryz.f101.body.isNone = false := ⟨by kernel_rfl, rfl⟩
theorem fok102 : (Tryz.f102.name == "runtime.NumGoroutine") = false ∧ Tryz.f102.body.isNone = false := ⟨by kernel_rfl, rfl⟩
theorem fok103 : (Tryz.f103.name == "runtime.NumGoroutine") = false ∧ Tryz.f103.body.isNone = false := ⟨by kernel_rfl, rfl⟩
theorem fok107 : (Tryz.f107.name == "runtime.NumGoroutine") = false ∧ Tryz.f107.body.isNone = false := ⟨by kernel_rfl, rfl⟩
theorem fok108 : (Tryz.f108.name == "runtime.NumGoroutine") = false ∧ Tryz.f108.body.isNone = false := ⟨by kernel_rfl, rfl⟩
theorem fok109 : (Tryz.f109.name == "runtime.NumGoroutine") = false ∧ Tryz.f109.body.isNone = false := ⟨by kernel_rfl, rfl⟩
theorem fok112 : (Tryz.f112.name == "runtime.NumGoroutine") = false ∧ Tryz.f112.body.isNone = false := ⟨by kernel_rfl, rfl⟩
theorem fok113 : (Tryz.f113.name == "runtime.NumGoroutine") = false ∧ Tryz.f113.body.isNone = false := ⟨by kernel_rfl, rfl⟩
theorem fok114 : (Tryz.f114.name == "runtime.NumGoroutine") = false ∧ Tryz.f114.body.isNone = false := ⟨by kernel_rfl, rfl⟩
theorem fok115 : (Tryz.f115.name == "runtime.NumGoroutine") = false ∧ Tryz.f115.body.isNone = false := ⟨by kernel_rfl, rfl⟩
theorem fok116 : (Tryz.f116.name == "runtime.NumGoroutine") = false ∧ Tryz.f116.body.isNone = false := ⟨by kernel_rfl, rfl⟩
theorem fok117 : (Tryz.f117.name == "runtime.NumGoroutine") = false ∧ Tryz.f117.body.isNone = false := ⟨by kernel_rfl, rfl⟩
theorem fok118 : (Tryz.f118.name == "runtime.NumGoroutine") = false ∧ Tryz.f118.body.isNone = false := ⟨by kernel_rfl, rfl⟩
theorem fok119 : (Tryz.f119.name == "runtime.NumGoroutine") = false ∧ Tryz.f119.body.isNone = false := ⟨by kernel_rfl, rfl⟩
theorem fok120 : (Tryz.f120.name == "runtime.NumGoroutine") = false ∧ Tryz.f120.body.isNone = false := ⟨by kernel_rfl, rfl⟩
theorem fok121 : (Tryz.f121.name == "runtime.NumGoroutine") = false ∧ Tryz.f121.body.isNone = false := ⟨by kernel_rfl, rfl⟩
theorem fok122 : (Tryz.f122.name == "runtime.NumGoroutine") = false ∧ Tryz.f122.body.isNone = false := ⟨by kernel_rfl, rfl⟩
theorem fok123 : (Tryz.f123.name == "runtime.NumGoroutine") = false ∧ Tryz.f123.body.isNone = false := ⟨by kernel_rfl, rfl⟩
theorem fok124 : (Tryz.f124.name == "runtime.NumGoroutine") = false ∧ Tryz.f124.body.isNone = false := ⟨by kernel_rfl, rfl⟩
theorem fok125 : (Tryz.f125.name == "runtime.NumGoroutine") = false ∧ Tryz.f125.body.isNone = false := ⟨by kernel_rfl, rfl⟩
theorem fok126 : (Tryz.f126.name == "runtime.NumGoroutine") = false ∧ Tryz.f126.body.isNone = false := ⟨by kernel_rfl, rfl⟩
theorem fok127 : (Tryz.f127.name == "runtime.NumGoroutine") = false ∧ Tryz.f127.body.isNone = false := ⟨by kernel_rfl, rfl⟩
theorem fok128 : (Tryz.f128.name == "runtime.NumGoroutine") = false ∧ Tryz.f128.body.isNone = false := ⟨by kernel_rfl, rfl⟩
theorem fok129 : (Tryz.f129.name == "runtime.NumGoroutine") = false ∧ Tryz.f129.body.isNone = false := ⟨by kernel_rfl, rfl⟩
theorem fok130 : (Tryz.f130.name == "runtime.NumGoroutine") = false ∧ Tryz.f130.body.isNone = false := ⟨by kernel_rfl, rfl⟩
theorem fok131 : (Tryz.f131.name == "runtime.NumGoroutine") = false ∧ Tryz.f131.body.isNone = false := ⟨by kernel_rfl, rfl⟩
theorem fok132 : (Tryz.f132.name == "runtime.NumGoroutine") = false ∧ Tryz.f132.body.isNone = false := ⟨by kernel_rfl, rfl⟩
theorem fok133 : (Tryz.f133.name == "runtime.NumGoroutine") = false ∧ Tryz.f133.body.isNone = false := ⟨by kernel_rfl, rfl⟩
theorem fok134 : (Tryz.f134.name == "runtime.NumGoroutine") = false ∧ Tryz.f134.body.isNone = false := ⟨by kernel_rfl, rfl⟩
theorem fok135 : (Tryz.f135.name == "runtime.NumGoroutine") = false ∧ Tryz.f135.body.isNone = false := ⟨by kernel_rfl, rfl⟩
theorem fok136 : (Tryz.f136.name == "runtime.NumGoroutine") = false ∧ Tryz.f136.body.isNone = false := ⟨by kernel_rfl, rfl⟩
theorem fok137 : (Tryz.f137.name == "runtime.NumGoroutine") = false ∧ Tryz.f137.body.isNone = false := ⟨by kernel_rfl, rfl⟩
theorem fok138 : (Tryz.f138.name == "runtime.NumGoroutine") = false ∧ Tryz.f138.body.isNone = false := ⟨by kernel_rfl, rfl⟩
theorem fok139 : (Tryz.f139.name == "runtime.NumGoroutine") = false ∧ Tryz.f139.body.isNone = false := ⟨by kernel_rfl, rfl⟩
theorem fok140 : (Tryz.f140.name == "runtime.NumGoroutine") = false ∧ Tryz.f140.body.isNone = false := ⟨by kernel_rfl, rfl⟩
theorem fok141 : (Tryz.f141.name == "runtime.NumGoroutine") = false ∧ Tryz.f141.body.isNone = false := ⟨by kernel_rfl, rfl⟩
theorem fok143 : (Tryz.f143.name == "runtime.NumGoroutine") = false ∧ Tryz.f143.body.isNone = false := ⟨by kernel_rfl, rfl⟩
theorem fok144 : (Tryz.f144.name == "runtime.NumGoroutine") = false ∧ Tryz.f144.body.isNone = false := ⟨by kernel_rfl, rfl⟩
theorem fok145 : (Tryz.f145.name == "runtime.NumGoroutine") = false ∧ Tryz.f145.body.isNone = false := ⟨by kernel_rfl, rfl⟩
theorem fok146 : (Tryz.f146.name == "runtime.NumGoroutine") = false ∧ Tryz.f146.body.isNone = false := ⟨by kernel_rfl, rfl⟩
theorem fok147 : (Tryz.f147.name == "runtime.NumGoroutine") = false ∧ Tryz.f147.body.isNone = false := ⟨by kernel_rfl, rfl⟩
theorem fok148 : (Tryz.f148.name == "runtime.NumGoroutine") = false ∧ Tryz.f148.body.isNone = false := ⟨by kernel_rfl, rfl⟩
theorem fok149 : (Tryz.f149.name == "runtime.NumGoroutine") = false ∧ Tryz.f149.body.isNone = false := ⟨by kernel_rfl, rfl⟩
theorem fok150 : (Tryz.f150.name == "runtime.NumGoroutine") = false ∧ Tryz.f150.body.isNone = false := ⟨by kernel_rfl, rfl⟩
theorem fok151 : (Tryz.f151.name == "runtime.NumGoroutine") = false ∧ Tryz.f151.body.isNone = false := ⟨by kernel_rfl, rfl⟩
theorem fok152 : (Tryz.f152.name == "runtime.NumGoroutine") = false ∧ Tryz.f152.body.isNone = false := ⟨by kernel_rfl, rfl⟩
theorem fok153 : (Tryz.f153.name == "runtime.NumGoroutine") = false ∧ Tryz.f153.body.isNone = false := ⟨by kernel_rfl, rfl⟩
theorem fok154 : (Tryz.f154.name == "runtime.NumGoroutine") = false ∧ Tryz.f154.body.isNone = false := ⟨by kernel_rfl, rfl⟩
theorem fok155 : (Tryz.f155.name == "runtime.NumGoroutine") = false ∧ Tryz.f155.body.isNone = false := ⟨by kernel_rfl, rfl⟩
theorem fok156 : (Tryz.f156.name == "runtime.NumGoroutine") = false ∧ Tryz.f156.body.isNone = false := ⟨by kernel_rfl, rfl⟩
theorem fok157 : (Tryz.f157.name == "runtime.NumGoroutine") = false ∧ Tryz.f157.body.isNone = false := ⟨by kernel_rfl, rfl⟩
theorem fok158 : (Tryz.f158.name == "runtime.NumGoroutine") = false ∧ Tryz.f158.body.isNone = false := ⟨by kernel_rfl, rfl⟩
theorem fok159 : (Tryz.f159.name == "runtime.NumGoroutine") = false ∧ Tryz.f159.body.isNone = false := ⟨by kernel_rfl, rfl⟩
theorem fok160 : (Tryz.f160.name == "runtime.NumGoroutine") = false ∧ Tryz.f160.body.isNone = false := ⟨by kernel_rfl, rfl⟩
theorem fok161 : (Tryz.f161.name == "runtime.NumGoroutine") = false ∧ Tryz.f161.body.isNone = false := ⟨by kernel_rfl, rfl⟩
theorem fok162 : (Tryz.f162.name == "runtime.NumGoroutine") = false ∧ Tryz.f162.body.isNone = false := ⟨by kernel_rfl, rfl⟩
theorem fok163 : (Tryz.f163.name == "runtime.NumGoroutine") = false ∧ Tryz.f163.body.isNone = false := ⟨by kernel_rfl, rfl⟩
theorem fok164 : (Tryz.f164.name == "runtime.NumGoroutine") = false ∧ Tryz.f164.body.isNone = false := ⟨by kernel_rfl, rfl⟩
theorem fok165 : (Tryz.f165.name == "runtime.NumGoroutine") = false ∧ Tryz.f165.body.isNone = false := ⟨by kernel_rfl, rfl⟩
theorem fok166 : (Tryz.f166.name == "runtime.NumGoroutine") = false ∧ Tryz.f166.body.isNone = false := ⟨by kernel_rfl, rfl⟩
theorem fok167 : (Tryz.f167.name == "runtime.NumGoroutine") = false ∧ Tryz.f167.body.isNone = false := ⟨by kernel_rfl, rfl⟩
theorem fok168 : (Tryz.f168.name == "runtime.NumGoroutine") = false ∧ Tryz.f168.body.isNone = false := ⟨by kernel_rfl, rfl⟩
theorem fok169 : (Tryz.f169.name == "runtime.NumGoroutine") = false ∧ Tryz.f169.body.isNone = false := ⟨by kernel_rfl, rfl⟩
theorem fok170 : (Tryz.f170.name == "runtime.NumGoroutine") = false ∧ Tryz.f170.body.isNone = false := ⟨by kernel_rfl, rfl⟩
theorem fok171 : (Tryz.f171.name == "runtime.NumGoroutine") = false ∧ Tryz.f171.body.isNone = false := ⟨by kernel_rfl, rfl⟩
theorem fok172 : (Tryz.f172.name == "runtime.NumGoroutine") = false ∧ Tryz.f172.body.isNone = false := ⟨by kernel_rfl, rfl⟩
theorem fok173 : (Tryz.f173.name == "runtime.NumGoroutine") = false ∧ Tryz.f173.body.isNone = false := ⟨by kernel_rfl, rfl⟩
theorem fok174 : (Tryz.f174.name == "runtime.NumGoroutine") = false ∧ Tryz.f174.body.isNone = false := ⟨by kernel_rfl, rfl⟩
theorem fok175 : (Tryz.f175.name == "runtime.NumGoroutine") = false ∧ Tryz.f175.body.isNone = false := ⟨by kernel_rfl, rfl⟩
theorem fok176 : (Tryz.f176.name == "runtime.NumGoroutine") = false ∧ Tryz.f176.body.isNone = false := ⟨by kernel_rfl, rfl⟩
theorem fok177 : (Tryz.f177.name == "runtime.NumGoroutine") = false ∧ Tryz.f177.body.isNone = false := ⟨by kernel_rfl, rfl⟩
theorem fok178 : (Tryz.f178.name == "runtime.NumGoroutine") = false ∧ Tryz.f178.body.isNone = false := ⟨by kernel_rfl, rfl⟩
theorem fok179 : (Tryz.f179.name == "runtime.NumGoroutine") = false ∧ Tryz.f179.body.isNone = false := ⟨by kernel_rfl, rfl⟩
theorem fok180 : (Tryz.f180.name == "runtime.NumGoroutine") = false ∧ Tryz.f180.body.isNone = false := ⟨by kernel_rfl, rfl⟩
theorem fok181 : (Tryz.f181.name == "runtime.NumGoroutine") = false ∧ Tryz.f181.body.isNone = false := ⟨by kernel_rfl, rfl⟩
theorem fok182 : (Tryz.f182.name == "runtime.NumGoroutine") = false ∧ Tryz.f182.body.isNone = false := ⟨by kernel_rfl, rfl⟩
theorem fok183 : (Tryz.f183.name == "runtime.NumGoroutine") = false ∧ Tryz.f183.body.isNone = false := ⟨by kernel_rfl, rfl⟩
theorem fok184 : (Tryz.f184.name == "runtime.NumGoroutine") = false ∧ Tryz.f184.body.isNone = false := ⟨by kernel_rfl, rfl⟩
theorem fok185 : (Tryz.f185.name == "runtime.NumGoroutine") = false ∧ Tryz.f185.body.isNone = false := ⟨by kernel_rfl, rfl⟩
theorem fok186 : (Tryz.f186.name == "runtime.NumGoroutine") = false ∧ Tryz.f186.body.isNone = false := ⟨by kernel_rfl, rfl⟩
theorem fok187 : (Tryz.f187.name == "runtime.NumGoroutine") = false ∧ Tryz.f187.body.isNone = false := ⟨by kernel_rfl, rfl⟩
theorem fok188 : (Tryz.f188.name == "runtime.NumGoroutine") = false ∧ Tryz.f188.body.isNone = false := ⟨by kernel_rfl, rfl⟩
theorem fok189 : (Tryz.f189.name == "runtime.NumGoroutine") = false ∧ Tryz.f189.body.isNone = false := ⟨by kernel_rfl, rfl⟩
theorem fok190 : (Tryz.f190.name == "runtime.NumGoroutine") = false ∧ Tryz.f190.body.isNone = false := ⟨by kernel_rfl, rfl⟩
theorem fok191 : (Tryz.f191.name == "runtime.NumGoroutine") = false ∧ Tryz.f191.body.isNone = false := ⟨by kernel_rfl, rfl⟩
theorem fok192 : (Tryz.f192.name == "runtime.NumGoroutine") = false ∧ Tryz.f192.body.isNone = false := ⟨by kernel_rfl, rfl⟩
theorem fok193 : (Tryz.f193.name == "runtime.NumGoroutine") = false ∧ Tryz.f193.body.isNone = false := ⟨by kernel_rfl, rfl⟩
theorem fok194 : (Tryz.f194.name == "runtime.NumGoroutine") = false ∧ Tryz.f194.body.isNone = false := ⟨by kernel_rfl, rfl⟩
theorem fok195 : (Tryz.f195.name == "runtime.NumGoroutine") = false ∧ Tryz.f195.body.isNone = false := ⟨by kernel_rfl, rfl⟩
theorem fok196 : (Tryz.f196.name == "runtime.NumGoroutine") = false ∧ Tryz.f196.body.isNone = false := ⟨by kernel_rfl, rfl⟩
theorem fok197 : (Tryz.f197.name == "runtime.NumGoroutine") = false ∧ Tryz.f197.body.isNone = false := ⟨by kernel_rfl, rfl⟩
theorem fok198 : (Tryz.f198.name == "runtime.NumGoroutine") = false ∧ Tryz.f198.body.isNone = false := ⟨by kernel_rfl, rfl⟩
theorem fok199 : (Tryz.f199.name == "runtime.NumGoroutine") = false ∧ Tryz.f199.body.isNone = false := ⟨by kernel_rfl, rfl⟩
theorem fok200 : (Tryz.f200.name == "runtime.NumGoroutine") = false ∧ Tryz.f200.body.isNone = false := ⟨by kernel_rfl, rfl⟩
theorem fok201 : (Tryz.f201.name == "runtime.NumGoroutine") = false ∧ Tryz.f201.body.isNone = false := ⟨by kernel_rfl, rfl⟩
theorem fok202 : (Tryz.f202.name == "runtime.NumGoroutine") = false ∧ Tryz.f202.body.isNone = false := ⟨by kernel_rfl, rfl⟩
theorem fok203 : (Tryz.f203.name == "runtime.NumGoroutine") = false ∧ Tryz.f203.body.isNone = false := ⟨by kernel_rfl, rfl⟩
theorem fok204 : (Tryz.f204.name == "runtime.NumGoroutine") = false ∧ Tryz.f204.body.isNone = false := ⟨by kernel_rfl, rfl⟩
theorem fok205 : (Tryz.f205.name == "runtime.NumGoroutine") = false ∧ Tryz.f205.body.isNone = false := ⟨by kernel_rfl, rfl⟩
theorem fok206 : (Tryz.f206.name == "runtime.NumGoroutine") = false ∧ Tryz.f206.body.isNone = false := ⟨by kernel_rfl, rfl⟩
theorem fok207 : (Tryz.f207.name == "runtime.NumGoroutine") = false ∧ Tryz.f207.body.isNone = false := ⟨by kernel_rfl, rfl⟩
theorem fok208 : (Tryz.f208.name == "runtime.NumGoroutine") = false ∧ Tryz.f208.body.isNone = false := ⟨by kernel_rfl, rfl⟩
theorem fok209 : (Tryz.f209.name == "runtime.NumGoroutine") = false ∧ Tryz.f209.body.isNone = false := ⟨by kernel_rfl, rfl⟩
theorem fok210 : (Tryz.f210.name == "runtime.NumGoroutine") = false ∧ Tryz.f210.body.isNone = false := ⟨by kernel_rfl, rfl⟩
theorem fok211 : (Tryz.f211.name == "runtime.NumGoroutine") = false ∧ Tryz.f211.body.isNone = false := ⟨by kernel_rfl, rfl⟩
theorem fok213 : (Tryz.f213.name == "runtime.NumGoroutine") = false ∧ Tryz.f213.body.isNone = false := ⟨by kernel_rfl, rfl⟩
theorem fok214 : (Tryz.f214.name == "runtime.NumGoroutine") = false ∧ Tryz.f214.body.isNone = false := ⟨by kernel_rfl, rfl⟩
theorem mixed : Tryz.prog.follows .mixedOrders = true := by kernel_rfl
end Go.Proofs.YthjomdggdaocgaaGreatDoor
