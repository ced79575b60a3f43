/-
  What the translation says of its types and functions.
-/
import Derived.Test.YtbjfinndngafoaaGreatProg
import Derived.Test.YtbjfinndngafoaaGreatAlM
set_option linter.unusedVariables false
set_option linter.unusedSimpArgs false
namespace Go.Proofs.YtbjfinndngafoaaGreat
open Go.RowKit
theorem ag107 : agB Tryz.prog 107 2 = true := by kernel_rfl
theorem ag111 : agB Tryz.prog 111 3 = true := by kernel_rfl
theorem ag118 : agB Tryz.prog 118 2 = true := by kernel_rfl
theorem ag127 : agB Tryz.prog 127 2 = true := by kernel_rfl
theorem ag131 : agB Tryz.prog 131 4 = true := by kernel_rfl
theorem ag142 : agB Tryz.prog 142 2 = true := by kernel_rfl
theorem ag167 : agB Tryz.prog 167 2 = true := by kernel_rfl
theorem ag174 : agB Tryz.prog 174 8 = true := by kernel_rfl
theorem ag24 : agB Tryz.prog 24 1 = true := by kernel_rfl
theorem ag31 : agB Tryz.prog 31 1 = true := by kernel_rfl
theorem ag33 : agB Tryz.prog 33 3 = true := by kernel_rfl
theorem ag65 : agB Tryz.prog 65 3 = true := by kernel_rfl
theorem eq107 {a0 a1 b0 b1 : Int} {w : World} : (Op.equal 107 (.agg [.int .i64 a0, .int .i64 a1].toArray) (.agg [.int .i64 b0, .int .i64 b1].toArray)).run Tryz.prog w = .ok (decide ((a0, a1) = (b0, b1))) w := eq_pair Tryz.underlying107 (by kernel_rfl) (by decide) Tryz.underlying2 Tryz.underlying2 (by kernel_rfl) (by kernel_rfl)
theorem eq167 {a0 a1 b0 b1 : Int} {w : World} : (Op.equal 167 (.agg [.int .i64 a0, .int .i64 a1].toArray) (.agg [.int .i64 b0, .int .i64 b1].toArray)).run Tryz.prog w = .ok (decide ((a0, a1) = (b0, b1))) w := eq_pair Tryz.underlying167 (by kernel_rfl) (by decide) Tryz.underlying2 Tryz.underlying2 (by kernel_rfl) (by kernel_rfl)
theorem fl104_0 : ∀ (ad : Addr) (w : World), (Instr.fieldAt 104 (.pointer (some ad)) 0).run Tryz.prog w = .ok (.pointer (some (ad.add 0))) w := fun _ _ => by kernel_rfl
theorem fl104_1 : ∀ (ad : Addr) (w : World), (Instr.fieldAt 104 (.pointer (some ad)) 1).run Tryz.prog w = .ok (.pointer (some (ad.add 1))) w := fun _ _ => by kernel_rfl
theorem fl104_2 : ∀ (ad : Addr) (w : World), (Instr.fieldAt 104 (.pointer (some ad)) 2).run Tryz.prog w = .ok (.pointer (some (ad.add 2))) w := fun _ _ => by kernel_rfl
theorem fl104_3 : ∀ (ad : Addr) (w : World), (Instr.fieldAt 104 (.pointer (some ad)) 3).run Tryz.prog w = .ok (.pointer (some (ad.add 3))) w := fun _ _ => by kernel_rfl
theorem fl107_0 : ∀ (ad : Addr) (w : World), (Instr.fieldAt 107 (.pointer (some ad)) 0).run Tryz.prog w = .ok (.pointer (some (ad.add 0))) w := fun _ _ => by kernel_rfl
theorem fl107_1 : ∀ (ad : Addr) (w : World), (Instr.fieldAt 107 (.pointer (some ad)) 1).run Tryz.prog w = .ok (.pointer (some (ad.add 1))) w := fun _ _ => by kernel_rfl
theorem fl111_0 : ∀ (ad : Addr) (w : World), (Instr.fieldAt 111 (.pointer (some ad)) 0).run Tryz.prog w = .ok (.pointer (some (ad.add 0))) w := fun _ _ => by kernel_rfl
theorem fl111_1 : ∀ (ad : Addr) (w : World), (Instr.fieldAt 111 (.pointer (some ad)) 1).run Tryz.prog w = .ok (.pointer (some (ad.add 1))) w := fun _ _ => by kernel_rfl
theorem fl111_2 : ∀ (ad : Addr) (w : World), (Instr.fieldAt 111 (.pointer (some ad)) 2).run Tryz.prog w = .ok (.pointer (some (ad.add 2))) w := fun _ _ => by kernel_rfl
theorem fl127_0 : ∀ (ad : Addr) (w : World), (Instr.fieldAt 127 (.pointer (some ad)) 0).run Tryz.prog w = .ok (.pointer (some (ad.add 0))) w := fun _ _ => by kernel_rfl
theorem fl127_1 : ∀ (ad : Addr) (w : World), (Instr.fieldAt 127 (.pointer (some ad)) 1).run Tryz.prog w = .ok (.pointer (some (ad.add 1))) w := fun _ _ => by kernel_rfl
theorem fl142_0 : ∀ (ad : Addr) (w : World), (Instr.fieldAt 142 (.pointer (some ad)) 0).run Tryz.prog w = .ok (.pointer (some (ad.add 0))) w := fun _ _ => by kernel_rfl
theorem fl142_1 : ∀ (ad : Addr) (w : World), (Instr.fieldAt 142 (.pointer (some ad)) 1).run Tryz.prog w = .ok (.pointer (some (ad.add 1))) w := fun _ _ => by kernel_rfl
theorem fl167_0 : ∀ (ad : Addr) (w : World), (Instr.fieldAt 167 (.pointer (some ad)) 0).run Tryz.prog w = .ok (.pointer (some (ad.add 0))) w := fun _ _ => by kernel_rfl
theorem fl167_1 : ∀ (ad : Addr) (w : World), (Instr.fieldAt 167 (.pointer (some ad)) 1).run Tryz.prog w = .ok (.pointer (some (ad.add 1))) w := fun _ _ => by kernel_rfl
theorem fl24_0 : ∀ (ad : Addr) (w : World), (Instr.fieldAt 24 (.pointer (some ad)) 0).run Tryz.prog w = .ok (.pointer (some (ad.add 0))) w := fun _ _ => by kernel_rfl
theorem fl31_0 : ∀ (ad : Addr) (w : World), (Instr.fieldAt 31 (.pointer (some ad)) 0).run Tryz.prog w = .ok (.pointer (some (ad.add 0))) w := fun _ _ => by kernel_rfl
theorem fl33_0 : ∀ (ad : Addr) (w : World), (Instr.fieldAt 33 (.pointer (some ad)) 0).run Tryz.prog w = .ok (.pointer (some (ad.add 0))) w := fun _ _ => by kernel_rfl
theorem fl33_1 : ∀ (ad : Addr) (w : World), (Instr.fieldAt 33 (.pointer (some ad)) 1).run Tryz.prog w = .ok (.pointer (some (ad.add 1))) w := fun _ _ => by kernel_rfl
theorem fl33_2 : ∀ (ad : Addr) (w : World), (Instr.fieldAt 33 (.pointer (some ad)) 2).run Tryz.prog w = .ok (.pointer (some (ad.add 2))) w := fun _ _ => by kernel_rfl
theorem fl65_0 : ∀ (ad : Addr) (w : World), (Instr.fieldAt 65 (.pointer (some ad)) 0).run Tryz.prog w = .ok (.pointer (some (ad.add 0))) w := fun _ _ => by kernel_rfl
theorem fl65_1 : ∀ (ad : Addr) (w : World), (Instr.fieldAt 65 (.pointer (some ad)) 1).run Tryz.prog w = .ok (.pointer (some (ad.add 1))) w := fun _ _ => by kernel_rfl
theorem fl65_2 : ∀ (ad : Addr) (w : World), (Instr.fieldAt 65 (.pointer (some ad)) 2).run Tryz.prog w = .ok (.pointer (some (ad.add 2))) w := fun _ _ => by kernel_rfl
theorem inf107 : (Tryz.prog.info? 107).map (fun i => (i.zero, i.size, i.bytes)) = some (some (.agg #[.int .i64 0, .int .i64 0]), 2, 16) := by kernel_rfl
theorem inf122 : (Tryz.prog.info? 122).map (fun i => (i.zero, i.size, i.bytes)) = some (some (.agg #[.int .i64 0, .int .i64 0, .int .i64 0, .int .i64 0]), 4, 32) := by kernel_rfl
theorem inf131 : (Tryz.prog.info? 131).map (fun i => (i.zero, i.size, i.bytes)) = some (some (.agg #[.int .i64 0, .int .i64 0, .int .i64 0, .int .i64 0]), 4, 32) := by kernel_rfl
theorem inf167 : (Tryz.prog.info? 167).map (fun i => (i.zero, i.size, i.bytes)) = some (some (.agg #[.int .i64 0, .int .i64 0]), 2, 16) := by kernel_rfl
theorem inf2 : (Tryz.prog.info? 2).map (fun i => (i.zero, i.size, i.bytes)) = some (some (.int .i64 0), 1, 8) := by kernel_rfl
theorem inf33 : (Tryz.prog.info? 33).map (fun i => (i.zero, i.size, i.bytes)) = some (some (.agg #[.int .i64 0, .int .i64 0, .int .i64 0]), 3, 24) := by kernel_rfl
theorem inf4 : (Tryz.prog.info? 4).map (fun i => (i.zero, i.size, i.bytes)) = some (some (.bool false), 1, 1) := by kernel_rfl
theorem inf56 : (Tryz.prog.info? 56).map (fun i => (i.zero, i.size, i.bytes)) = some (some (.slice none 0 0), 1, 24) := by kernel_rfl
theorem inf77 : (Tryz.prog.info? 77).map (fun i => (i.zero, i.size, i.bytes)) = some (some (.slice none 0 0), 1, 24) := by kernel_rfl
theorem kok118 : KeyOk Tryz.prog 118 ke_Arr2 := by
  obtain ⟨i, hi, _⟩ := Option.map_eq_some_iff.1 (by kernel_rfl : (Tryz.prog.info? 2).map (·.size) = some 1)
  exact keyArr2 (p := fun x => x.e0) (q := fun x => x.e1) (fun ⟨_, _⟩ ⟨_, _⟩ h1 h2 => by cases h1; cases h2; rfl) (fun _ => rfl) Tryz.underlying118 hi (by kernel_rfl) Tryz.underlying2 (by kernel_rfl)
theorem kok2 : KeyOk Tryz.prog 2 (Value.int .i64) := keyInt Tryz.underlying2
theorem na101 : naB Tryz.prog 101 = true := by kernel_rfl
theorem na102 : naB Tryz.prog 102 = true := by kernel_rfl
theorem na109 : naB Tryz.prog 109 = true := by kernel_rfl
theorem na199 : naB Tryz.prog 199 = true := by kernel_rfl
theorem na2 : naB Tryz.prog 2 = true := by kernel_rfl
theorem na22 : naB Tryz.prog 22 = true := by kernel_rfl
theorem na29 : naB Tryz.prog 29 = true := by kernel_rfl
theorem na3 : naB Tryz.prog 3 = true := by kernel_rfl
theorem na4 : naB Tryz.prog 4 = true := by kernel_rfl
theorem na56 : naB Tryz.prog 56 = true := by kernel_rfl
theorem na63 : naB Tryz.prog 63 = true := by kernel_rfl
theorem na77 : naB Tryz.prog 77 = true := by kernel_rfl
theorem na89 : naB Tryz.prog 89 = true := by kernel_rfl
theorem ng107 : Tryz.prog.eqGuardType Tryz.prog.depth 107 = false := by kernel_rfl
theorem ng167 : Tryz.prog.eqGuardType Tryz.prog.depth 167 = false := by kernel_rfl
theorem sz107 : (Tryz.prog.info? 107).map (·.size) = some 2 := by kernel_rfl
theorem sz127 : (Tryz.prog.info? 127).map (·.size) = some 2 := by kernel_rfl
theorem sz142 : (Tryz.prog.info? 142).map (·.size) = some 2 := by kernel_rfl
theorem sz167 : (Tryz.prog.info? 167).map (·.size) = some 2 := by kernel_rfl
theorem sz2 : (Tryz.prog.info? 2).map (·.size) = some 1 := by kernel_rfl
theorem sz33 : (Tryz.prog.info? 33).map (·.size) = some 3 := by kernel_rfl
theorem sz4 : (Tryz.prog.info? 4).map (·.size) = some 1 := by kernel_rfl
theorem sz56 : (Tryz.prog.info? 56).map (·.size) = some 1 := by kernel_rfl
theorem sz77 : (Tryz.prog.info? 77).map (·.size) = some 1 := by kernel_rfl
theorem sz89 : (Tryz.prog.info? 89).map (·.size) = some 1 := by kernel_rfl
abbrev U101 := @Tryz.underlying101
abbrev U102 := @Tryz.underlying102
abbrev U109 := @Tryz.underlying109
abbrev U116 := @Tryz.underlying116
abbrev U131 := @Tryz.underlying131
abbrev U165 := @Tryz.underlying165
abbrev U171 := @Tryz.underlying171
abbrev U174 := @Tryz.underlying174
abbrev U189 := @Tryz.underlying189
abbrev U199 := @Tryz.underlying199
abbrev U2 := @Tryz.underlying2
abbrev U22 := @Tryz.underlying22
abbrev U29 := @Tryz.underlying29
abbrev U37 := @Tryz.underlying37
abbrev U56 := @Tryz.underlying56
abbrev U63 := @Tryz.underlying63
abbrev U70 := @Tryz.underlying70
abbrev U77 := @Tryz.underlying77
abbrev U89 := @Tryz.underlying89
theorem zr107 : (Tryz.prog.info? 107).map (·.zero) = some (some (.agg #[.int .i64 0, .int .i64 0])) := by kernel_rfl
theorem zr111 : (Tryz.prog.info? 111).map (·.zero) = some (some (.agg #[.slice none 0 0, .slice none 0 0, .slice none 0 0])) := by kernel_rfl
theorem zr118 : (Tryz.prog.info? 118).map (·.zero) = some (some (.agg #[.int .i64 0, .int .i64 0])) := by kernel_rfl
theorem zr127 : (Tryz.prog.info? 127).map (·.zero) = some (some (.agg #[.int .i64 0, .int .i64 0])) := by kernel_rfl
theorem zr131 : (Tryz.prog.info? 131).map (·.zero) = some (some (.agg #[.int .i64 0, .int .i64 0, .int .i64 0, .int .i64 0])) := by kernel_rfl
theorem zr167 : (Tryz.prog.info? 167).map (·.zero) = some (some (.agg #[.int .i64 0, .int .i64 0])) := by kernel_rfl
theorem zr174 : (Tryz.prog.info? 174).map (·.zero) = some (some (.agg #[.int .i64 0, .int .i64 0, .int .i64 0, .int .i64 0, .int .i64 0, .int .i64 0, .int .i64 0, .int .i64 0])) := by kernel_rfl
theorem zr199 : (Tryz.prog.info? 199).map (·.zero) = some (some (.map none)) := by kernel_rfl
theorem zr2 : (Tryz.prog.info? 2).map (·.zero) = some (some (.int .i64 0)) := by kernel_rfl
theorem zr3 : (Tryz.prog.info? 3).map (·.zero) = some (some (.int .i64 0)) := by kernel_rfl
theorem zr31 : (Tryz.prog.info? 31).map (·.zero) = some (some (.agg #[.slice none 0 0])) := by kernel_rfl
theorem zr33 : (Tryz.prog.info? 33).map (·.zero) = some (some (.agg #[.int .i64 0, .int .i64 0, .int .i64 0])) := by kernel_rfl
theorem zr4 : (Tryz.prog.info? 4).map (·.zero) = some (some (.bool false)) := by kernel_rfl
theorem zr56 : (Tryz.prog.info? 56).map (·.zero) = some (some (.slice none 0 0)) := by kernel_rfl
theorem zr65 : (Tryz.prog.info? 65).map (·.zero) = some (some (.agg #[.slice none 0 0, .slice none 0 0, .slice none 0 0])) := by kernel_rfl
theorem fok10 : FK Tryz.prog 10 Tryz.f10 := ⟨Tryz.func10, by kernel_rfl, rfl⟩
theorem fok11 : FK Tryz.prog 11 Tryz.f11 := ⟨Tryz.func11, by kernel_rfl, rfl⟩
theorem fok12 : FK Tryz.prog 12 Tryz.f12 := ⟨Tryz.func12, by kernel_rfl, rfl⟩
theorem fok15 : FK Tryz.prog 15 Tryz.f15 := ⟨Tryz.func15, by kernel_rfl, rfl⟩
theorem fok16 : FK Tryz.prog 16 Tryz.f16 := ⟨Tryz.func16, by kernel_rfl, rfl⟩
theorem fok17 : FK Tryz.prog 17 Tryz.f17 := ⟨Tryz.func17, by kernel_rfl, rfl⟩
theorem fok18 : FK Tryz.prog 18 Tryz.f18 := ⟨Tryz.func18, by kernel_rfl, rfl⟩
theorem fok19 : FK Tryz.prog 19 Tryz.f19 := ⟨Tryz.func19, by kernel_rfl, rfl⟩
theorem fok20 : FK Tryz.prog 20 Tryz.f20 := ⟨Tryz.func20, by kernel_rfl, rfl⟩
theorem fok21 : FK Tryz.prog 21 Tryz.f21 := ⟨Tryz.func21, by kernel_rfl, rfl⟩
theorem fok24 : FK Tryz.prog 24 Tryz.f24 := ⟨Tryz.func24, by kernel_rfl, rfl⟩
theorem fok39 : FK Tryz.prog 39 Tryz.f39 := ⟨Tryz.func39, by kernel_rfl, rfl⟩
theorem fok40 : FK Tryz.prog 40 Tryz.f40 := ⟨Tryz.func40, by kernel_rfl, rfl⟩
theorem fok41 : FK Tryz.prog 41 Tryz.f41 := ⟨Tryz.func41, by kernel_rfl, rfl⟩
theorem fok42 : FK Tryz.prog 42 Tryz.f42 := ⟨Tryz.func42, by kernel_rfl, rfl⟩
theorem fok43 : FK Tryz.prog 43 Tryz.f43 := ⟨Tryz.func43, by kernel_rfl, rfl⟩
theorem fok44 : FK Tryz.prog 44 Tryz.f44 := ⟨Tryz.func44, by kernel_rfl, rfl⟩
theorem fok45 : FK Tryz.prog 45 Tryz.f45 := ⟨Tryz.func45, by kernel_rfl, rfl⟩
theorem fok46 : FK Tryz.prog 46 Tryz.f46 := ⟨Tryz.func46, by kernel_rfl, rfl⟩
theorem fok47 : FK Tryz.prog 47 Tryz.f47 := ⟨Tryz.func47, by kernel_rfl, rfl⟩
theorem fok48 : FK Tryz.prog 48 Tryz.f48 := ⟨Tryz.func48, by kernel_rfl, rfl⟩
theorem fok49 : FK Tryz.prog 49 Tryz.f49 := ⟨Tryz.func49, by kernel_rfl, rfl⟩
theorem fok61 : FK Tryz.prog 61 Tryz.f61 := ⟨Tryz.func61, by kernel_rfl, rfl⟩
theorem fok62 : FK Tryz.prog 62 Tryz.f62 := ⟨Tryz.func62, by kernel_rfl, rfl⟩
theorem fok63 : FK Tryz.prog 63 Tryz.f63 := ⟨Tryz.func63, by kernel_rfl, rfl⟩
theorem fok64 : FK Tryz.prog 64 Tryz.f64 := ⟨Tryz.func64, by kernel_rfl, rfl⟩
theorem fok65 : FK Tryz.prog 65 Tryz.f65 := ⟨Tryz.func65, by kernel_rfl, rfl⟩
theorem fok66 : FK Tryz.prog 66 Tryz.f66 := ⟨Tryz.func66, by kernel_rfl, rfl⟩
theorem fok67 : FK Tryz.prog 67 Tryz.f67 := ⟨Tryz.func67, by kernel_rfl, rfl⟩
theorem fok68 : FK Tryz.prog 68 Tryz.f68 := ⟨Tryz.func68, by kernel_rfl, rfl⟩
theorem fok69 : FK Tryz.prog 69 Tryz.f69 := ⟨Tryz.func69, by kernel_rfl, rfl⟩
theorem fok70 : FK Tryz.prog 70 Tryz.f70 := ⟨Tryz.func70, by kernel_rfl, rfl⟩
theorem fok71 : FK Tryz.prog 71 Tryz.f71 := ⟨Tryz.func71, by kernel_rfl, rfl⟩
theorem fok72 : FK Tryz.prog 72 Tryz.f72 := ⟨Tryz.func72, by kernel_rfl, rfl⟩
theorem fok73 : FK Tryz.prog 73 Tryz.f73 := ⟨Tryz.func73, by kernel_rfl, rfl⟩
theorem fok74 : FK Tryz.prog 74 Tryz.f74 := ⟨Tryz.func74, by kernel_rfl, rfl⟩
theorem fok75 : FK Tryz.prog 75 Tryz.f75 := ⟨Tryz.func75, by kernel_rfl, rfl⟩
theorem fok76 : FK Tryz.prog 76 Tryz.f76 := ⟨Tryz.func76, by kernel_rfl, rfl⟩
theorem fok77 : FK Tryz.prog 77 Tryz.f77 := ⟨Tryz.func77, by kernel_rfl, rfl⟩
theorem fok78 : FK Tryz.prog 78 Tryz.f78 := ⟨Tryz.func78, by kernel_rfl, rfl⟩
theorem fok79 : FK Tryz.prog 79 Tryz.f79 := ⟨Tryz.func79, by kernel_rfl, rfl⟩
theorem fok80 : FK Tryz.prog 80 Tryz.f80 := ⟨Tryz.func80, by kernel_rfl, rfl⟩
theorem fok81 : FK Tryz.prog 81 Tryz.f81 := ⟨Tryz.func81, by kernel_rfl, rfl⟩
theorem fok82 : FK Tryz.prog 82 Tryz.f82 := ⟨Tryz.func82, by kernel_rfl, rfl⟩
theorem fok83 : FK Tryz.prog 83 Tryz.f83 := ⟨Tryz.func83, by kernel_rfl, rfl⟩
theorem fok84 : FK Tryz.prog 84 Tryz.f84 := ⟨Tryz.func84, by kernel_rfl, rfl⟩
theorem fok87 : FK Tryz.prog 87 Tryz.f87 := ⟨Tryz.func87, by kernel_rfl, rfl⟩
theorem fok91 : FK Tryz.prog 91 Tryz.f91 := ⟨Tryz.func91, by kernel_rfl, rfl⟩
theorem fok92 : FK Tryz.prog 92 Tryz.f92 := ⟨Tryz.func92, by kernel_rfl, rfl⟩
theorem fok93 : FK Tryz.prog 93 Tryz.f93 := ⟨Tryz.func93, by kernel_rfl, rfl⟩
theorem fok94 : FK Tryz.prog 94 Tryz.f94 := ⟨Tryz.func94, by kernel_rfl, rfl⟩
theorem fok95 : FK Tryz.prog 95 Tryz.f95 := ⟨Tryz.func95, by kernel_rfl, rfl⟩
theorem fok102 : FK Tryz.prog 102 Tryz.f102 := ⟨Tryz.func102, by kernel_rfl, rfl⟩
theorem fok103 : FK Tryz.prog 103 Tryz.f103 := ⟨Tryz.func103, by kernel_rfl, rfl⟩
theorem fok104 : FK Tryz.prog 104 Tryz.f104 := ⟨Tryz.func104, by kernel_rfl, rfl⟩
theorem fok105 : FK Tryz.prog 105 Tryz.f105 := ⟨Tryz.func105, by kernel_rfl, rfl⟩
theorem fok106 : FK Tryz.prog 106 Tryz.f106 := ⟨Tryz.func106, by kernel_rfl, rfl⟩
theorem fok107 : FK Tryz.prog 107 Tryz.f107 := ⟨Tryz.func107, by kernel_rfl, rfl⟩
theorem fok108 : FK Tryz.prog 108 Tryz.f108 := ⟨Tryz.func108, by kernel_rfl, rfl⟩
theorem fok109 : FK Tryz.prog 109 Tryz.f109 := ⟨Tryz.func109, by kernel_rfl, rfl⟩
theorem fok110 : FK Tryz.prog 110 Tryz.f110 := ⟨Tryz.func110, by kernel_rfl, rfl⟩
theorem fok111 : FK Tryz.prog 111 Tryz.f111 := ⟨Tryz.func111, by kernel_rfl, rfl⟩
theorem fok112 : FK Tryz.prog 112 Tryz.f112 := ⟨Tryz.func112, by kernel_rfl, rfl⟩
theorem fok113 : FK Tryz.prog 113 Tryz.f113 := ⟨Tryz.func113, by kernel_rfl, rfl⟩
theorem fok114 : FK Tryz.prog 114 Tryz.f114 := ⟨Tryz.func114, by kernel_rfl, rfl⟩
theorem fok115 : FK Tryz.prog 115 Tryz.f115 := ⟨Tryz.func115, by kernel_rfl, rfl⟩
theorem fok116 : FK Tryz.prog 116 Tryz.f116 := ⟨Tryz.func116, by kernel_rfl, rfl⟩
theorem fok117 : FK Tryz.prog 117 Tryz.f117 := ⟨Tryz.func117, by kernel_rfl, rfl⟩
theorem fok118 : FK Tryz.prog 118 Tryz.f118 := ⟨Tryz.func118, by kernel_rfl, rfl⟩
theorem fok119 : FK Tryz.prog 119 Tryz.f119 := ⟨Tryz.func119, by kernel_rfl, rfl⟩
theorem fok120 : FK Tryz.prog 120 Tryz.f120 := ⟨Tryz.func120, by kernel_rfl, rfl⟩
theorem fok121 : FK Tryz.prog 121 Tryz.f121 := ⟨Tryz.func121, by kernel_rfl, rfl⟩
theorem fok122 : FK Tryz.prog 122 Tryz.f122 := ⟨Tryz.func122, by kernel_rfl, rfl⟩
theorem fok123 : FK Tryz.prog 123 Tryz.f123 := ⟨Tryz.func123, by kernel_rfl, rfl⟩
theorem fok124 : FK Tryz.prog 124 Tryz.f124 := ⟨Tryz.func124, by kernel_rfl, rfl⟩
theorem fok125 : FK Tryz.prog 125 Tryz.f125 := ⟨Tryz.func125, by kernel_rfl, rfl⟩
theorem fok126 : FK Tryz.prog 126 Tryz.f126 := ⟨Tryz.func126, by kernel_rfl, rfl⟩
theorem fok129 : FK Tryz.prog 129 Tryz.f129 := ⟨Tryz.func129, by kernel_rfl, rfl⟩
theorem fok130 : FK Tryz.prog 130 Tryz.f130 := ⟨Tryz.func130, by kernel_rfl, rfl⟩
theorem fok131 : FK Tryz.prog 131 Tryz.f131 := ⟨Tryz.func131, by kernel_rfl, rfl⟩
theorem fok132 : FK Tryz.prog 132 Tryz.f132 := ⟨Tryz.func132, by kernel_rfl, rfl⟩
theorem fok133 : FK Tryz.prog 133 Tryz.f133 := ⟨Tryz.func133, by kernel_rfl, rfl⟩
theorem fok134 : FK Tryz.prog 134 Tryz.f134 := ⟨Tryz.func134, by kernel_rfl, rfl⟩
theorem fok135 : FK Tryz.prog 135 Tryz.f135 := ⟨Tryz.func135, by kernel_rfl, rfl⟩
theorem fok136 : FK Tryz.prog 136 Tryz.f136 := ⟨Tryz.func136, by kernel_rfl, rfl⟩
theorem fok137 : FK Tryz.prog 137 Tryz.f137 := ⟨Tryz.func137, by kernel_rfl, rfl⟩
theorem fok138 : FK Tryz.prog 138 Tryz.f138 := ⟨Tryz.func138, by kernel_rfl, rfl⟩
theorem fok139 : FK Tryz.prog 139 Tryz.f139 := ⟨Tryz.func139, by kernel_rfl, rfl⟩
theorem fok140 : FK Tryz.prog 140 Tryz.f140 := ⟨Tryz.func140, by kernel_rfl, rfl⟩
theorem fok141 : FK Tryz.prog 141 Tryz.f141 := ⟨Tryz.func141, by kernel_rfl, rfl⟩
theorem fok142 : FK Tryz.prog 142 Tryz.f142 := ⟨Tryz.func142, by kernel_rfl, rfl⟩
theorem fok143 : FK Tryz.prog 143 Tryz.f143 := ⟨Tryz.func143, by kernel_rfl, rfl⟩
theorem fok144 : FK Tryz.prog 144 Tryz.f144 := ⟨Tryz.func144, by kernel_rfl, rfl⟩
theorem fok145 : FK Tryz.prog 145 Tryz.f145 := ⟨Tryz.func145, by kernel_rfl, rfl⟩
theorem fok146 : FK Tryz.prog 146 Tryz.f146 := ⟨Tryz.func146, by kernel_rfl, rfl⟩
theorem fok147 : FK Tryz.prog 147 Tryz.f147 := ⟨Tryz.func147, by kernel_rfl, rfl⟩
theorem fok148 : FK Tryz.prog 148 Tryz.f148 := ⟨Tryz.func148, by kernel_rfl, rfl⟩
theorem fok149 : FK Tryz.prog 149 Tryz.f149 := ⟨Tryz.func149, by kernel_rfl, rfl⟩
theorem fok150 : FK Tryz.prog 150 Tryz.f150 := ⟨Tryz.func150, by kernel_rfl, rfl⟩
theorem fok151 : FK Tryz.prog 151 Tryz.f151 := ⟨Tryz.func151, by kernel_rfl, rfl⟩
theorem fok152 : FK Tryz.prog 152 Tryz.f152 := ⟨Tryz.func152, by kernel_rfl, rfl⟩
theorem fok154 : FK Tryz.prog 154 Tryz.f154 := ⟨Tryz.func154, by kernel_rfl, rfl⟩
theorem fok155 : FK Tryz.prog 155 Tryz.f155 := ⟨Tryz.func155, by kernel_rfl, rfl⟩
theorem fok156 : FK Tryz.prog 156 Tryz.f156 := ⟨Tryz.func156, by kernel_rfl, rfl⟩
theorem fok157 : FK Tryz.prog 157 Tryz.f157 := ⟨Tryz.func157, by kernel_rfl, rfl⟩
theorem fok158 : FK Tryz.prog 158 Tryz.f158 := ⟨Tryz.func158, by kernel_rfl, rfl⟩
theorem fok159 : FK Tryz.prog 159 Tryz.f159 := ⟨Tryz.func159, by kernel_rfl, rfl⟩
theorem fok160 : FK Tryz.prog 160 Tryz.f160 := ⟨Tryz.func160, by kernel_rfl, rfl⟩
theorem fok161 : FK Tryz.prog 161 Tryz.f161 := ⟨Tryz.func161, by kernel_rfl, rfl⟩
theorem fok162 : FK Tryz.prog 162 Tryz.f162 := ⟨Tryz.func162, by kernel_rfl, rfl⟩
theorem fok163 : FK Tryz.prog 163 Tryz.f163 := ⟨Tryz.func163, by kernel_rfl, rfl⟩
theorem fok166 : FK Tryz.prog 166 Tryz.f166 := ⟨Tryz.func166, by kernel_rfl, rfl⟩
theorem fok167 : FK Tryz.prog 167 Tryz.f167 := ⟨Tryz.func167, by kernel_rfl, rfl⟩
theorem fok168 : FK Tryz.prog 168 Tryz.f168 := ⟨Tryz.func168, by kernel_rfl, rfl⟩
theorem fok169 : FK Tryz.prog 169 Tryz.f169 := ⟨Tryz.func169, by kernel_rfl, rfl⟩
theorem fok170 : FK Tryz.prog 170 Tryz.f170 := ⟨Tryz.func170, by kernel_rfl, rfl⟩
theorem fok171 : FK Tryz.prog 171 Tryz.f171 := ⟨Tryz.func171, by kernel_rfl, rfl⟩
theorem mixed : Tryz.prog.follows .mixedOrders = true := by kernel_rfl
end Go.Proofs.YtbjfinndngafoaaGreat
