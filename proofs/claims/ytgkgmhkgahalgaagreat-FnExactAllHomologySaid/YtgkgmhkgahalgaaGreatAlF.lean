/-
  What the translation says of its types and functions.
-/
import Derived.Test.YtgkgmhkgahalgaaGreatProg
import Derived.Test.YtgkgmhkgahalgaaGreatAlM
set_option linter.unusedVariables false
set_option linter.unusedSimpArgs false
namespace Go.Proofs.YtgkgmhkgahalgaaGreat
open Go.RowKit
theorem yL:agB Tryz.prog 129 2=true:=by kernel_rfl
theorem W9:agB Tryz.prog 138 15=true:=by kernel_rfl
theorem S9:agB Tryz.prog 160 4=true:=by kernel_rfl
theorem jD:agB Tryz.prog 24 1=true:=by kernel_rfl
theorem Ka:agB Tryz.prog 28 2=true:=by kernel_rfl
theorem Jn:agB Tryz.prog 33 1=true:=by kernel_rfl
theorem Du:agB Tryz.prog 57 3=true:=by kernel_rfl
theorem J2:agB Tryz.prog 83 2=true:=by kernel_rfl
theorem kM:agB Tryz.prog 95 3=true:=by kernel_rfl
theorem iC {a0 a1 b0 b1:Int} {w:World}:(Op.equal 83 (.agg [.int .i64 a0,.int .i64 a1].toArray) (.agg [.int .i64 b0,.int .i64 b1].toArray)).run Tryz.prog w=.ok (decide ((a0,a1)=(b0,b1))) w:=oD Tryz.underlying83 (by kernel_rfl) (by decide) Tryz.underlying2 Tryz.underlying2 (by kernel_rfl) (by kernel_rfl)
theorem Ho:∀ (ad:Addr) (w:World),(Instr.fieldAt 124 (.pointer (some ad)) 0).run Tryz.prog w=.ok (.pointer (some (ad.add 0))) w:=fun _ _=>by kernel_rfl
theorem P9:∀ (ad:Addr) (w:World),(Instr.fieldAt 124 (.pointer (some ad)) 1).run Tryz.prog w=.ok (.pointer (some (ad.add 3))) w:=fun _ _=>by kernel_rfl
theorem Rj:∀ (ad:Addr) (w:World),(Instr.fieldAt 124 (.pointer (some ad)) 2).run Tryz.prog w=.ok (.pointer (some (ad.add 6))) w:=fun _ _=>by kernel_rfl
theorem eG:∀ (ad:Addr) (w:World),(Instr.fieldAt 124 (.pointer (some ad)) 3).run Tryz.prog w=.ok (.pointer (some (ad.add 9))) w:=fun _ _=>by kernel_rfl
theorem fO:∀ (ad:Addr) (w:World),(Instr.fieldAt 124 (.pointer (some ad)) 4).run Tryz.prog w=.ok (.pointer (some (ad.add 12))) w:=fun _ _=>by kernel_rfl
theorem Kb:∀ (ad:Addr) (w:World),(Instr.fieldAt 124 (.pointer (some ad)) 5).run Tryz.prog w=.ok (.pointer (some (ad.add 15))) w:=fun _ _=>by kernel_rfl
theorem nQ:∀ (ad:Addr) (w:World),(Instr.fieldAt 129 (.pointer (some ad)) 0).run Tryz.prog w=.ok (.pointer (some (ad.add 0))) w:=fun _ _=>by kernel_rfl
theorem oP:∀ (ad:Addr) (w:World),(Instr.fieldAt 129 (.pointer (some ad)) 1).run Tryz.prog w=.ok (.pointer (some (ad.add 1))) w:=fun _ _=>by kernel_rfl
theorem Ym:∀ (ad:Addr) (w:World),(Instr.fieldAt 138 (.pointer (some ad)) 0).run Tryz.prog w=.ok (.pointer (some (ad.add 0))) w:=fun _ _=>by kernel_rfl
theorem Rk:∀ (ad:Addr) (w:World),(Instr.fieldAt 138 (.pointer (some ad)) 1).run Tryz.prog w=.ok (.pointer (some (ad.add 3))) w:=fun _ _=>by kernel_rfl
theorem K5:∀ (ad:Addr) (w:World),(Instr.fieldAt 138 (.pointer (some ad)) 2).run Tryz.prog w=.ok (.pointer (some (ad.add 6))) w:=fun _ _=>by kernel_rfl
theorem eD:∀ (ad:Addr) (w:World),(Instr.fieldAt 138 (.pointer (some ad)) 3).run Tryz.prog w=.ok (.pointer (some (ad.add 9))) w:=fun _ _=>by kernel_rfl
theorem eP:∀ (ad:Addr) (w:World),(Instr.fieldAt 138 (.pointer (some ad)) 4).run Tryz.prog w=.ok (.pointer (some (ad.add 12))) w:=fun _ _=>by kernel_rfl
theorem Iw:∀ (ad:Addr) (w:World),(Instr.fieldAt 168 (.pointer (some ad)) 0).run Tryz.prog w=.ok (.pointer (some (ad.add 0))) w:=fun _ _=>by kernel_rfl
theorem Ma:∀ (ad:Addr) (w:World),(Instr.fieldAt 168 (.pointer (some ad)) 1).run Tryz.prog w=.ok (.pointer (some (ad.add 15))) w:=fun _ _=>by kernel_rfl
theorem lY:∀ (ad:Addr) (w:World),(Instr.fieldAt 24 (.pointer (some ad)) 0).run Tryz.prog w=.ok (.pointer (some (ad.add 0))) w:=fun _ _=>by kernel_rfl
theorem X7:∀ (ad:Addr) (w:World),(Instr.fieldAt 28 (.pointer (some ad)) 0).run Tryz.prog w=.ok (.pointer (some (ad.add 0))) w:=fun _ _=>by kernel_rfl
theorem Yj:∀ (ad:Addr) (w:World),(Instr.fieldAt 28 (.pointer (some ad)) 1).run Tryz.prog w=.ok (.pointer (some (ad.add 1))) w:=fun _ _=>by kernel_rfl
theorem H8:∀ (ad:Addr) (w:World),(Instr.fieldAt 33 (.pointer (some ad)) 0).run Tryz.prog w=.ok (.pointer (some (ad.add 0))) w:=fun _ _=>by kernel_rfl
theorem Gg:∀ (ad:Addr) (w:World),(Instr.fieldAt 57 (.pointer (some ad)) 0).run Tryz.prog w=.ok (.pointer (some (ad.add 0))) w:=fun _ _=>by kernel_rfl
theorem Ew:∀ (ad:Addr) (w:World),(Instr.fieldAt 57 (.pointer (some ad)) 1).run Tryz.prog w=.ok (.pointer (some (ad.add 1))) w:=fun _ _=>by kernel_rfl
theorem Jf:∀ (ad:Addr) (w:World),(Instr.fieldAt 57 (.pointer (some ad)) 2).run Tryz.prog w=.ok (.pointer (some (ad.add 2))) w:=fun _ _=>by kernel_rfl
theorem Hf:∀ (ad:Addr) (w:World),(Instr.fieldAt 83 (.pointer (some ad)) 0).run Tryz.prog w=.ok (.pointer (some (ad.add 0))) w:=fun _ _=>by kernel_rfl
theorem Jy:∀ (ad:Addr) (w:World),(Instr.fieldAt 83 (.pointer (some ad)) 1).run Tryz.prog w=.ok (.pointer (some (ad.add 1))) w:=fun _ _=>by kernel_rfl
theorem dO:∀ (ad:Addr) (w:World),(Instr.fieldAt 95 (.pointer (some ad)) 0).run Tryz.prog w=.ok (.pointer (some (ad.add 0))) w:=fun _ _=>by kernel_rfl
theorem Xu:∀ (ad:Addr) (w:World),(Instr.fieldAt 95 (.pointer (some ad)) 1).run Tryz.prog w=.ok (.pointer (some (ad.add 1))) w:=fun _ _=>by kernel_rfl
theorem Qv:∀ (ad:Addr) (w:World),(Instr.fieldAt 95 (.pointer (some ad)) 2).run Tryz.prog w=.ok (.pointer (some (ad.add 2))) w:=fun _ _=>by kernel_rfl
theorem Le:(Tryz.prog.info? 2).map (fun i=>(i.zero,i.size,i.bytes))=some (some (.int .i64 0),1,8):=by kernel_rfl
theorem mU:(Tryz.prog.info? 26).map (fun i=>(i.zero,i.size,i.bytes))=some (some (.slice none 0 0),1,24):=by kernel_rfl
theorem qA:(Tryz.prog.info? 28).map (fun i=>(i.zero,i.size,i.bytes))=some (some (.agg #[.int .i64 0,.slice none 0 0]),2,32):=by kernel_rfl
theorem xM:(Tryz.prog.info? 4).map (fun i=>(i.zero,i.size,i.bytes))=some (some (.bool false),1,1):=by kernel_rfl
theorem yF:(Tryz.prog.info? 81).map (fun i=>(i.zero,i.size,i.bytes))=some (some (.slice none 0 0),1,24):=by kernel_rfl
theorem yC:(Tryz.prog.info? 83).map (fun i=>(i.zero,i.size,i.bytes))=some (some (.agg #[.int .i64 0,.int .i64 0]),2,16):=by kernel_rfl
theorem wJ:Vs Tryz.prog 2 (Value.int .i64):=uP Tryz.underlying2
theorem mD:naB Tryz.prog 162=true:=by kernel_rfl
theorem na2:naB Tryz.prog 2=true:=by kernel_rfl
theorem wL:naB Tryz.prog 22=true:=by kernel_rfl
theorem Ha:naB Tryz.prog 26=true:=by kernel_rfl
theorem na3:naB Tryz.prog 3=true:=by kernel_rfl
theorem Kr:naB Tryz.prog 31=true:=by kernel_rfl
theorem na4:naB Tryz.prog 4=true:=by kernel_rfl
theorem Q3:naB Tryz.prog 65=true:=by kernel_rfl
theorem zH:naB Tryz.prog 80=true:=by kernel_rfl
theorem Ng:naB Tryz.prog 81=true:=by kernel_rfl
theorem gG:Tryz.prog.eqGuardType Tryz.prog.depth 83=false:=by kernel_rfl
theorem yE:(Tryz.prog.info? 129).map (·.size)=some 2:=by kernel_rfl
theorem sz2:(Tryz.prog.info? 2).map (·.size)=some 1:=by kernel_rfl
theorem Od:(Tryz.prog.info? 26).map (·.size)=some 1:=by kernel_rfl
theorem gM:(Tryz.prog.info? 28).map (·.size)=some 2:=by kernel_rfl
theorem sz4:(Tryz.prog.info? 4).map (·.size)=some 1:=by kernel_rfl
theorem wX:(Tryz.prog.info? 80).map (·.size)=some 1:=by kernel_rfl
theorem Nh:(Tryz.prog.info? 81).map (·.size)=some 1:=by kernel_rfl
theorem Nr:(Tryz.prog.info? 83).map (·.size)=some 2:=by kernel_rfl
abbrev dV:=@Tryz.underlying104
abbrev Oe:=@Tryz.underlying160
abbrev yX:=@Tryz.underlying162
abbrev oQ:=@Tryz.underlying182
abbrev vL:=@Tryz.underlying186
abbrev U2:=@Tryz.underlying2
abbrev U22:=@Tryz.underlying22
abbrev U26:=@Tryz.underlying26
abbrev U3:=@Tryz.underlying3
abbrev U31:=@Tryz.underlying31
abbrev U4:=@Tryz.underlying4
abbrev U46:=@Tryz.underlying46
abbrev U65:=@Tryz.underlying65
abbrev U80:=@Tryz.underlying80
abbrev U81:=@Tryz.underlying81
theorem qN:(Tryz.prog.info? 138).map (·.zero)=some (some (.agg #[.int .i64 0,.int .i64 0,.slice none 0 0,.int .i64 0,.int .i64 0,.slice none 0 0,.int .i64 0,.int .i64 0,.slice none 0 0,.int .i64 0,.int .i64 0,.slice none 0 0,.int .i64 0,.int .i64 0,.slice none 0 0])):=by kernel_rfl
theorem Ze:(Tryz.prog.info? 160).map (·.zero)=some (some (.agg #[.int .i64 0,.int .i64 0,.int .i64 0,.int .i64 0])):=by kernel_rfl
theorem xS:(Tryz.prog.info? 162).map (·.zero)=some (some (.map none)):=by kernel_rfl
theorem zr2:(Tryz.prog.info? 2).map (·.zero)=some (some (.int .i64 0)):=by kernel_rfl
theorem bT:(Tryz.prog.info? 26).map (·.zero)=some (some (.slice none 0 0)):=by kernel_rfl
theorem gV:(Tryz.prog.info? 28).map (·.zero)=some (some (.agg #[.int .i64 0,.slice none 0 0])):=by kernel_rfl
theorem zr3:(Tryz.prog.info? 3).map (·.zero)=some (some (.int .i64 0)):=by kernel_rfl
theorem uI:(Tryz.prog.info? 33).map (·.zero)=some (some (.agg #[.slice none 0 0])):=by kernel_rfl
theorem zr4:(Tryz.prog.info? 4).map (·.zero)=some (some (.bool false)):=by kernel_rfl
theorem Md:(Tryz.prog.info? 57).map (·.zero)=some (some (.agg #[.int .i64 0,.int .i64 0,.slice none 0 0])):=by kernel_rfl
theorem Rp:(Tryz.prog.info? 83).map (·.zero)=some (some (.agg #[.int .i64 0,.int .i64 0])):=by kernel_rfl
theorem vD:(Tryz.prog.info? 95).map (·.zero)=some (some (.agg #[.slice none 0 0,.slice none 0 0,.slice none 0 0])):=by kernel_rfl
theorem Aam:FK Tryz.prog 8 Tryz.f8:=⟨Tryz.func8,by kernel_rfl,rfl⟩
theorem Aad:FK Tryz.prog 9 Tryz.f9:=⟨Tryz.func9,by kernel_rfl,rfl⟩
theorem fE:FK Tryz.prog 10 Tryz.f10:=⟨Tryz.func10,by kernel_rfl,rfl⟩
theorem yM:FK Tryz.prog 11 Tryz.f11:=⟨Tryz.func11,by kernel_rfl,rfl⟩
theorem wI:FK Tryz.prog 12 Tryz.f12:=⟨Tryz.func12,by kernel_rfl,rfl⟩
theorem yS:FK Tryz.prog 13 Tryz.f13:=⟨Tryz.func13,by kernel_rfl,rfl⟩
theorem xH:FK Tryz.prog 14 Tryz.f14:=⟨Tryz.func14,by kernel_rfl,rfl⟩
theorem yV:FK Tryz.prog 21 Tryz.f21:=⟨Tryz.func21,by kernel_rfl,rfl⟩
theorem zA:FK Tryz.prog 22 Tryz.f22:=⟨Tryz.func22,by kernel_rfl,rfl⟩
theorem wN:FK Tryz.prog 23 Tryz.f23:=⟨Tryz.func23,by kernel_rfl,rfl⟩
theorem wK:FK Tryz.prog 24 Tryz.f24:=⟨Tryz.func24,by kernel_rfl,rfl⟩
theorem qW:FK Tryz.prog 25 Tryz.f25:=⟨Tryz.func25,by kernel_rfl,rfl⟩
theorem Wi:FK Tryz.prog 26 Tryz.f26:=⟨Tryz.func26,by kernel_rfl,rfl⟩
theorem xR:FK Tryz.prog 27 Tryz.f27:=⟨Tryz.func27,by kernel_rfl,rfl⟩
theorem qU:FK Tryz.prog 28 Tryz.f28:=⟨Tryz.func28,by kernel_rfl,rfl⟩
theorem xN:FK Tryz.prog 31 Tryz.f31:=⟨Tryz.func31,by kernel_rfl,rfl⟩
theorem yH:FK Tryz.prog 32 Tryz.f32:=⟨Tryz.func32,by kernel_rfl,rfl⟩
theorem kP:FK Tryz.prog 33 Tryz.f33:=⟨Tryz.func33,by kernel_rfl,rfl⟩
theorem xG:FK Tryz.prog 34 Tryz.f34:=⟨Tryz.func34,by kernel_rfl,rfl⟩
theorem zP:FK Tryz.prog 35 Tryz.f35:=⟨Tryz.func35,by kernel_rfl,rfl⟩
theorem qX:FK Tryz.prog 36 Tryz.f36:=⟨Tryz.func36,by kernel_rfl,rfl⟩
theorem wP:FK Tryz.prog 37 Tryz.f37:=⟨Tryz.func37,by kernel_rfl,rfl⟩
theorem yD:FK Tryz.prog 38 Tryz.f38:=⟨Tryz.func38,by kernel_rfl,rfl⟩
theorem xL:FK Tryz.prog 39 Tryz.f39:=⟨Tryz.func39,by kernel_rfl,rfl⟩
theorem qF:FK Tryz.prog 40 Tryz.f40:=⟨Tryz.func40,by kernel_rfl,rfl⟩
theorem yG:FK Tryz.prog 41 Tryz.f41:=⟨Tryz.func41,by kernel_rfl,rfl⟩
theorem yO:FK Tryz.prog 42 Tryz.f42:=⟨Tryz.func42,by kernel_rfl,rfl⟩
theorem eF:FK Tryz.prog 47 Tryz.f47:=⟨Tryz.func47,by kernel_rfl,rfl⟩
theorem Td:FK Tryz.prog 48 Tryz.f48:=⟨Tryz.func48,by kernel_rfl,rfl⟩
theorem Ur:FK Tryz.prog 52 Tryz.f52:=⟨Tryz.func52,by kernel_rfl,rfl⟩
theorem Kh:FK Tryz.prog 54 Tryz.f54:=⟨Tryz.func54,by kernel_rfl,rfl⟩
theorem Xd:FK Tryz.prog 55 Tryz.f55:=⟨Tryz.func55,by kernel_rfl,rfl⟩
theorem xP:FK Tryz.prog 56 Tryz.f56:=⟨Tryz.func56,by kernel_rfl,rfl⟩
theorem zC:FK Tryz.prog 58 Tryz.f58:=⟨Tryz.func58,by kernel_rfl,rfl⟩
theorem Tf:FK Tryz.prog 59 Tryz.f59:=⟨Tryz.func59,by kernel_rfl,rfl⟩
theorem zJ:FK Tryz.prog 60 Tryz.f60:=⟨Tryz.func60,by kernel_rfl,rfl⟩
theorem Qw:FK Tryz.prog 61 Tryz.f61:=⟨Tryz.func61,by kernel_rfl,rfl⟩
theorem rE:FK Tryz.prog 62 Tryz.f62:=⟨Tryz.func62,by kernel_rfl,rfl⟩
theorem qD:FK Tryz.prog 63 Tryz.f63:=⟨Tryz.func63,by kernel_rfl,rfl⟩
theorem jZ:FK Tryz.prog 64 Tryz.f64:=⟨Tryz.func64,by kernel_rfl,rfl⟩
theorem wQ:FK Tryz.prog 65 Tryz.f65:=⟨Tryz.func65,by kernel_rfl,rfl⟩
theorem xX:FK Tryz.prog 66 Tryz.f66:=⟨Tryz.func66,by kernel_rfl,rfl⟩
theorem qV:FK Tryz.prog 67 Tryz.f67:=⟨Tryz.func67,by kernel_rfl,rfl⟩
theorem zQ:FK Tryz.prog 68 Tryz.f68:=⟨Tryz.func68,by kernel_rfl,rfl⟩
theorem wZ:FK Tryz.prog 69 Tryz.f69:=⟨Tryz.func69,by kernel_rfl,rfl⟩
theorem xB:FK Tryz.prog 70 Tryz.f70:=⟨Tryz.func70,by kernel_rfl,rfl⟩
theorem jP:FK Tryz.prog 71 Tryz.f71:=⟨Tryz.func71,by kernel_rfl,rfl⟩
theorem dX:FK Tryz.prog 72 Tryz.f72:=⟨Tryz.func72,by kernel_rfl,rfl⟩
theorem iU:FK Tryz.prog 73 Tryz.f73:=⟨Tryz.func73,by kernel_rfl,rfl⟩
theorem fD:FK Tryz.prog 74 Tryz.f74:=⟨Tryz.func74,by kernel_rfl,rfl⟩
theorem wV:FK Tryz.prog 75 Tryz.f75:=⟨Tryz.func75,by kernel_rfl,rfl⟩
theorem yQ:FK Tryz.prog 76 Tryz.f76:=⟨Tryz.func76,by kernel_rfl,rfl⟩
theorem Pq:FK Tryz.prog 77 Tryz.f77:=⟨Tryz.func77,by kernel_rfl,rfl⟩
theorem xY:FK Tryz.prog 78 Tryz.f78:=⟨Tryz.func78,by kernel_rfl,rfl⟩
theorem wW:FK Tryz.prog 79 Tryz.f79:=⟨Tryz.func79,by kernel_rfl,rfl⟩
theorem zG:FK Tryz.prog 80 Tryz.f80:=⟨Tryz.func80,by kernel_rfl,rfl⟩
theorem eY:FK Tryz.prog 81 Tryz.f81:=⟨Tryz.func81,by kernel_rfl,rfl⟩
theorem qI:FK Tryz.prog 82 Tryz.f82:=⟨Tryz.func82,by kernel_rfl,rfl⟩
theorem qG:FK Tryz.prog 83 Tryz.f83:=⟨Tryz.func83,by kernel_rfl,rfl⟩
theorem eH:FK Tryz.prog 84 Tryz.f84:=⟨Tryz.func84,by kernel_rfl,rfl⟩
theorem zI:FK Tryz.prog 85 Tryz.f85:=⟨Tryz.func85,by kernel_rfl,rfl⟩
theorem rF:FK Tryz.prog 86 Tryz.f86:=⟨Tryz.func86,by kernel_rfl,rfl⟩
theorem yI:FK Tryz.prog 87 Tryz.f87:=⟨Tryz.func87,by kernel_rfl,rfl⟩
theorem wH:FK Tryz.prog 88 Tryz.f88:=⟨Tryz.func88,by kernel_rfl,rfl⟩
theorem zS:FK Tryz.prog 89 Tryz.f89:=⟨Tryz.func89,by kernel_rfl,rfl⟩
theorem wD:FK Tryz.prog 90 Tryz.f90:=⟨Tryz.func90,by kernel_rfl,rfl⟩
theorem yU:FK Tryz.prog 91 Tryz.f91:=⟨Tryz.func91,by kernel_rfl,rfl⟩
theorem mP:FK Tryz.prog 101 Tryz.f101:=⟨Tryz.func101,by kernel_rfl,rfl⟩
theorem uF:FK Tryz.prog 102 Tryz.f102:=⟨Tryz.func102,by kernel_rfl,rfl⟩
theorem R7:FK Tryz.prog 103 Tryz.f103:=⟨Tryz.func103,by kernel_rfl,rfl⟩
theorem iV:FK Tryz.prog 104 Tryz.f104:=⟨Tryz.func104,by kernel_rfl,rfl⟩
theorem Ju:FK Tryz.prog 105 Tryz.f105:=⟨Tryz.func105,by kernel_rfl,rfl⟩
theorem Ru:FK Tryz.prog 106 Tryz.f106:=⟨Tryz.func106,by kernel_rfl,rfl⟩
theorem uX:FK Tryz.prog 107 Tryz.f107:=⟨Tryz.func107,by kernel_rfl,rfl⟩
theorem aN:FK Tryz.prog 108 Tryz.f108:=⟨Tryz.func108,by kernel_rfl,rfl⟩
theorem bG:FK Tryz.prog 109 Tryz.f109:=⟨Tryz.func109,by kernel_rfl,rfl⟩
theorem cK:FK Tryz.prog 110 Tryz.f110:=⟨Tryz.func110,by kernel_rfl,rfl⟩
theorem vK:FK Tryz.prog 111 Tryz.f111:=⟨Tryz.func111,by kernel_rfl,rfl⟩
theorem vQ:FK Tryz.prog 112 Tryz.f112:=⟨Tryz.func112,by kernel_rfl,rfl⟩
theorem iJ:FK Tryz.prog 113 Tryz.f113:=⟨Tryz.func113,by kernel_rfl,rfl⟩
theorem Pt:FK Tryz.prog 114 Tryz.f114:=⟨Tryz.func114,by kernel_rfl,rfl⟩
theorem vB:FK Tryz.prog 115 Tryz.f115:=⟨Tryz.func115,by kernel_rfl,rfl⟩
theorem vJ:FK Tryz.prog 116 Tryz.f116:=⟨Tryz.func116,by kernel_rfl,rfl⟩
theorem Uo:FK Tryz.prog 117 Tryz.f117:=⟨Tryz.func117,by kernel_rfl,rfl⟩
theorem O0:FK Tryz.prog 118 Tryz.f118:=⟨Tryz.func118,by kernel_rfl,rfl⟩
theorem kC:FK Tryz.prog 119 Tryz.f119:=⟨Tryz.func119,by kernel_rfl,rfl⟩
theorem bR:FK Tryz.prog 120 Tryz.f120:=⟨Tryz.func120,by kernel_rfl,rfl⟩
theorem uZ:FK Tryz.prog 121 Tryz.f121:=⟨Tryz.func121,by kernel_rfl,rfl⟩
theorem Sc:FK Tryz.prog 122 Tryz.f122:=⟨Tryz.func122,by kernel_rfl,rfl⟩
theorem vZ:FK Tryz.prog 123 Tryz.f123:=⟨Tryz.func123,by kernel_rfl,rfl⟩
theorem kT:FK Tryz.prog 124 Tryz.f124:=⟨Tryz.func124,by kernel_rfl,rfl⟩
theorem Yz:FK Tryz.prog 125 Tryz.f125:=⟨Tryz.func125,by kernel_rfl,rfl⟩
theorem jC:FK Tryz.prog 126 Tryz.f126:=⟨Tryz.func126,by kernel_rfl,rfl⟩
theorem cZ:FK Tryz.prog 127 Tryz.f127:=⟨Tryz.func127,by kernel_rfl,rfl⟩
theorem aW:FK Tryz.prog 128 Tryz.f128:=⟨Tryz.func128,by kernel_rfl,rfl⟩
theorem aQ:FK Tryz.prog 129 Tryz.f129:=⟨Tryz.func129,by kernel_rfl,rfl⟩
theorem Vm:FK Tryz.prog 130 Tryz.f130:=⟨Tryz.func130,by kernel_rfl,rfl⟩
theorem cB:FK Tryz.prog 131 Tryz.f131:=⟨Tryz.func131,by kernel_rfl,rfl⟩
theorem jQ:FK Tryz.prog 132 Tryz.f132:=⟨Tryz.func132,by kernel_rfl,rfl⟩
theorem vX:FK Tryz.prog 133 Tryz.f133:=⟨Tryz.func133,by kernel_rfl,rfl⟩
theorem sH:FK Tryz.prog 134 Tryz.f134:=⟨Tryz.func134,by kernel_rfl,rfl⟩
theorem Vj:FK Tryz.prog 142 Tryz.f142:=⟨Tryz.func142,by kernel_rfl,rfl⟩
theorem Yr:FK Tryz.prog 146 Tryz.f146:=⟨Tryz.func146,by kernel_rfl,rfl⟩
theorem vH:FK Tryz.prog 147 Tryz.f147:=⟨Tryz.func147,by kernel_rfl,rfl⟩
theorem tC:FK Tryz.prog 148 Tryz.f148:=⟨Tryz.func148,by kernel_rfl,rfl⟩
theorem lM:FK Tryz.prog 149 Tryz.f149:=⟨Tryz.func149,by kernel_rfl,rfl⟩
theorem uG:FK Tryz.prog 150 Tryz.f150:=⟨Tryz.func150,by kernel_rfl,rfl⟩
theorem vS:FK Tryz.prog 151 Tryz.f151:=⟨Tryz.func151,by kernel_rfl,rfl⟩
theorem bJ:FK Tryz.prog 152 Tryz.f152:=⟨Tryz.func152,by kernel_rfl,rfl⟩
theorem Xr:FK Tryz.prog 153 Tryz.f153:=⟨Tryz.func153,by kernel_rfl,rfl⟩
theorem Yi:FK Tryz.prog 154 Tryz.f154:=⟨Tryz.func154,by kernel_rfl,rfl⟩
theorem kH:FK Tryz.prog 155 Tryz.f155:=⟨Tryz.func155,by kernel_rfl,rfl⟩
theorem dA:FK Tryz.prog 156 Tryz.f156:=⟨Tryz.func156,by kernel_rfl,rfl⟩
theorem aT:FK Tryz.prog 157 Tryz.f157:=⟨Tryz.func157,by kernel_rfl,rfl⟩
theorem uT:FK Tryz.prog 158 Tryz.f158:=⟨Tryz.func158,by kernel_rfl,rfl⟩
theorem rV:FK Tryz.prog 159 Tryz.f159:=⟨Tryz.func159,by kernel_rfl,rfl⟩
theorem kX:FK Tryz.prog 160 Tryz.f160:=⟨Tryz.func160,by kernel_rfl,rfl⟩
theorem mY:FK Tryz.prog 161 Tryz.f161:=⟨Tryz.func161,by kernel_rfl,rfl⟩
theorem iZ:FK Tryz.prog 162 Tryz.f162:=⟨Tryz.func162,by kernel_rfl,rfl⟩
theorem uS:FK Tryz.prog 163 Tryz.f163:=⟨Tryz.func163,by kernel_rfl,rfl⟩
theorem vU:FK Tryz.prog 164 Tryz.f164:=⟨Tryz.func164,by kernel_rfl,rfl⟩
theorem iR:FK Tryz.prog 165 Tryz.f165:=⟨Tryz.func165,by kernel_rfl,rfl⟩
theorem kL:FK Tryz.prog 166 Tryz.f166:=⟨Tryz.func166,by kernel_rfl,rfl⟩
theorem Yb:FK Tryz.prog 167 Tryz.f167:=⟨Tryz.func167,by kernel_rfl,rfl⟩
theorem sO:FK Tryz.prog 168 Tryz.f168:=⟨Tryz.func168,by kernel_rfl,rfl⟩
theorem vC:FK Tryz.prog 169 Tryz.f169:=⟨Tryz.func169,by kernel_rfl,rfl⟩
theorem kS:FK Tryz.prog 170 Tryz.f170:=⟨Tryz.func170,by kernel_rfl,rfl⟩
theorem sP:FK Tryz.prog 171 Tryz.f171:=⟨Tryz.func171,by kernel_rfl,rfl⟩
theorem lI:FK Tryz.prog 172 Tryz.f172:=⟨Tryz.func172,by kernel_rfl,rfl⟩
theorem vF:FK Tryz.prog 173 Tryz.f173:=⟨Tryz.func173,by kernel_rfl,rfl⟩
theorem Pp:FK Tryz.prog 180 Tryz.f180:=⟨Tryz.func180,by kernel_rfl,rfl⟩
theorem rR:FK Tryz.prog 181 Tryz.f181:=⟨Tryz.func181,by kernel_rfl,rfl⟩
theorem kJ:FK Tryz.prog 182 Tryz.f182:=⟨Tryz.func182,by kernel_rfl,rfl⟩
theorem mH:FK Tryz.prog 183 Tryz.f183:=⟨Tryz.func183,by kernel_rfl,rfl⟩
theorem uJ:FK Tryz.prog 184 Tryz.f184:=⟨Tryz.func184,by kernel_rfl,rfl⟩
theorem rX:FK Tryz.prog 185 Tryz.f185:=⟨Tryz.func185,by kernel_rfl,rfl⟩
theorem tQ:FK Tryz.prog 186 Tryz.f186:=⟨Tryz.func186,by kernel_rfl,rfl⟩
theorem tL:FK Tryz.prog 187 Tryz.f187:=⟨Tryz.func187,by kernel_rfl,rfl⟩
theorem Yd:FK Tryz.prog 188 Tryz.f188:=⟨Tryz.func188,by kernel_rfl,rfl⟩
theorem rY:FK Tryz.prog 189 Tryz.f189:=⟨Tryz.func189,by kernel_rfl,rfl⟩
theorem vW:FK Tryz.prog 190 Tryz.f190:=⟨Tryz.func190,by kernel_rfl,rfl⟩
theorem uL:FK Tryz.prog 191 Tryz.f191:=⟨Tryz.func191,by kernel_rfl,rfl⟩
theorem uY:FK Tryz.prog 192 Tryz.f192:=⟨Tryz.func192,by kernel_rfl,rfl⟩
theorem rJ:FK Tryz.prog 193 Tryz.f193:=⟨Tryz.func193,by kernel_rfl,rfl⟩
theorem kW:FK Tryz.prog 194 Tryz.f194:=⟨Tryz.func194,by kernel_rfl,rfl⟩
theorem sS:FK Tryz.prog 195 Tryz.f195:=⟨Tryz.func195,by kernel_rfl,rfl⟩
theorem uA:FK Tryz.prog 200 Tryz.f200:=⟨Tryz.func200,by kernel_rfl,rfl⟩
theorem dN:FK Tryz.prog 201 Tryz.f201:=⟨Tryz.func201,by kernel_rfl,rfl⟩
theorem bW:FK Tryz.prog 202 Tryz.f202:=⟨Tryz.func202,by kernel_rfl,rfl⟩
theorem dM:FK Tryz.prog 203 Tryz.f203:=⟨Tryz.func203,by kernel_rfl,rfl⟩
theorem bP:FK Tryz.prog 204 Tryz.f204:=⟨Tryz.func204,by kernel_rfl,rfl⟩
theorem vI:FK Tryz.prog 205 Tryz.f205:=⟨Tryz.func205,by kernel_rfl,rfl⟩
theorem vP:FK Tryz.prog 206 Tryz.f206:=⟨Tryz.func206,by kernel_rfl,rfl⟩
theorem dI:FK Tryz.prog 207 Tryz.f207:=⟨Tryz.func207,by kernel_rfl,rfl⟩
theorem bH:FK Tryz.prog 208 Tryz.f208:=⟨Tryz.func208,by kernel_rfl,rfl⟩
theorem Y3:FK Tryz.prog 209 Tryz.f209:=⟨Tryz.func209,by kernel_rfl,rfl⟩
theorem jX:FK Tryz.prog 210 Tryz.f210:=⟨Tryz.func210,by kernel_rfl,rfl⟩
theorem uU:FK Tryz.prog 211 Tryz.f211:=⟨Tryz.func211,by kernel_rfl,rfl⟩
theorem lZ:FK Tryz.prog 212 Tryz.f212:=⟨Tryz.func212,by kernel_rfl,rfl⟩
theorem jH:FK Tryz.prog 213 Tryz.f213:=⟨Tryz.func213,by kernel_rfl,rfl⟩
theorem bC:FK Tryz.prog 214 Tryz.f214:=⟨Tryz.func214,by kernel_rfl,rfl⟩
theorem dJ:FK Tryz.prog 215 Tryz.f215:=⟨Tryz.func215,by kernel_rfl,rfl⟩
theorem sN:FK Tryz.prog 217 Tryz.f217:=⟨Tryz.func217,by kernel_rfl,rfl⟩
theorem lH:FK Tryz.prog 220 Tryz.f220:=⟨Tryz.func220,by kernel_rfl,rfl⟩
theorem kG:FK Tryz.prog 221 Tryz.f221:=⟨Tryz.func221,by kernel_rfl,rfl⟩
theorem mQ:FK Tryz.prog 222 Tryz.f222:=⟨Tryz.func222,by kernel_rfl,rfl⟩
theorem mixed:Tryz.prog.follows .mixedOrders=true:=by kernel_rfl
end Go.Proofs.YtgkgmhkgahalgaaGreat
