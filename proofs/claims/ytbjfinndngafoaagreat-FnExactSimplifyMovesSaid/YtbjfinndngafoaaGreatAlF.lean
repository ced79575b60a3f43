/-
  What the translation says of its types and functions.
-/
import Derived.Test.YtbjfinndngafoaaGreatProg
import Derived.Test.YtbjfinndngafoaaGreatAlM
set_option linter.unusedVariables false
set_option linter.unusedSimpArgs false
namespace Go.Proofs.YtbjfinndngafoaaGreat
open Go.RowKit
theorem D9:agB Tryz.prog 107 2=true:=by kernel_rfl
theorem Pm:agB Tryz.prog 111 3=true:=by kernel_rfl
theorem fC:agB Tryz.prog 118 2=true:=by kernel_rfl
theorem dD:agB Tryz.prog 122 4=true:=by kernel_rfl
theorem Oe:agB Tryz.prog 127 2=true:=by kernel_rfl
theorem Ki:agB Tryz.prog 131 4=true:=by kernel_rfl
theorem xL:agB Tryz.prog 142 2=true:=by kernel_rfl
theorem Iq:agB Tryz.prog 167 2=true:=by kernel_rfl
theorem Lr:agB Tryz.prog 174 8=true:=by kernel_rfl
theorem fE:agB Tryz.prog 24 1=true:=by kernel_rfl
theorem Dq:agB Tryz.prog 31 1=true:=by kernel_rfl
theorem Lb:agB Tryz.prog 33 3=true:=by kernel_rfl
theorem Ht:agB Tryz.prog 65 3=true:=by kernel_rfl
theorem Uv {a0 a1 b0 b1:Int} {w:World}:(Op.equal 107 (.agg [.int .i64 a0,.int .i64 a1].toArray) (.agg [.int .i64 b0,.int .i64 b1].toArray)).run Tryz.prog w=.ok (decide ((a0,a1)=(b0,b1))) w:=bD Tryz.underlying107 (by kernel_rfl) (by decide) Tryz.underlying2 Tryz.underlying2 (by kernel_rfl) (by kernel_rfl)
theorem oW {a0 a1 b0 b1:Int} {w:World}:(Op.equal 167 (.agg [.int .i64 a0,.int .i64 a1].toArray) (.agg [.int .i64 b0,.int .i64 b1].toArray)).run Tryz.prog w=.ok (decide ((a0,a1)=(b0,b1))) w:=bD Tryz.underlying167 (by kernel_rfl) (by decide) Tryz.underlying2 Tryz.underlying2 (by kernel_rfl) (by kernel_rfl)
theorem O9:∀ (ad:Addr) (w:World),(Instr.fieldAt 104 (.pointer (some ad)) 0).run Tryz.prog w=.ok (.pointer (some (ad.add 0))) w:=fun _ _=>by kernel_rfl
theorem Wy:∀ (ad:Addr) (w:World),(Instr.fieldAt 104 (.pointer (some ad)) 1).run Tryz.prog w=.ok (.pointer (some (ad.add 1))) w:=fun _ _=>by kernel_rfl
theorem bU:∀ (ad:Addr) (w:World),(Instr.fieldAt 104 (.pointer (some ad)) 2).run Tryz.prog w=.ok (.pointer (some (ad.add 2))) w:=fun _ _=>by kernel_rfl
theorem O7:∀ (ad:Addr) (w:World),(Instr.fieldAt 104 (.pointer (some ad)) 3).run Tryz.prog w=.ok (.pointer (some (ad.add 3))) w:=fun _ _=>by kernel_rfl
theorem Dp:∀ (ad:Addr) (w:World),(Instr.fieldAt 107 (.pointer (some ad)) 0).run Tryz.prog w=.ok (.pointer (some (ad.add 0))) w:=fun _ _=>by kernel_rfl
theorem Gn:∀ (ad:Addr) (w:World),(Instr.fieldAt 107 (.pointer (some ad)) 1).run Tryz.prog w=.ok (.pointer (some (ad.add 1))) w:=fun _ _=>by kernel_rfl
theorem Vq:∀ (ad:Addr) (w:World),(Instr.fieldAt 111 (.pointer (some ad)) 0).run Tryz.prog w=.ok (.pointer (some (ad.add 0))) w:=fun _ _=>by kernel_rfl
theorem Lj:∀ (ad:Addr) (w:World),(Instr.fieldAt 111 (.pointer (some ad)) 1).run Tryz.prog w=.ok (.pointer (some (ad.add 1))) w:=fun _ _=>by kernel_rfl
theorem Wp:∀ (ad:Addr) (w:World),(Instr.fieldAt 111 (.pointer (some ad)) 2).run Tryz.prog w=.ok (.pointer (some (ad.add 2))) w:=fun _ _=>by kernel_rfl
theorem Xj:∀ (ad:Addr) (w:World),(Instr.fieldAt 122 (.pointer (some ad)) 0).run Tryz.prog w=.ok (.pointer (some (ad.add 0))) w:=fun _ _=>by kernel_rfl
theorem R7:∀ (ad:Addr) (w:World),(Instr.fieldAt 122 (.pointer (some ad)) 1).run Tryz.prog w=.ok (.pointer (some (ad.add 1))) w:=fun _ _=>by kernel_rfl
theorem Xa:∀ (ad:Addr) (w:World),(Instr.fieldAt 122 (.pointer (some ad)) 2).run Tryz.prog w=.ok (.pointer (some (ad.add 2))) w:=fun _ _=>by kernel_rfl
theorem Vw:∀ (ad:Addr) (w:World),(Instr.fieldAt 122 (.pointer (some ad)) 3).run Tryz.prog w=.ok (.pointer (some (ad.add 3))) w:=fun _ _=>by kernel_rfl
theorem Kj:∀ (ad:Addr) (w:World),(Instr.fieldAt 127 (.pointer (some ad)) 0).run Tryz.prog w=.ok (.pointer (some (ad.add 0))) w:=fun _ _=>by kernel_rfl
theorem Md:∀ (ad:Addr) (w:World),(Instr.fieldAt 127 (.pointer (some ad)) 1).run Tryz.prog w=.ok (.pointer (some (ad.add 1))) w:=fun _ _=>by kernel_rfl
theorem mG:∀ (ad:Addr) (w:World),(Instr.fieldAt 142 (.pointer (some ad)) 0).run Tryz.prog w=.ok (.pointer (some (ad.add 0))) w:=fun _ _=>by kernel_rfl
theorem mQ:∀ (ad:Addr) (w:World),(Instr.fieldAt 142 (.pointer (some ad)) 1).run Tryz.prog w=.ok (.pointer (some (ad.add 1))) w:=fun _ _=>by kernel_rfl
theorem Gx:∀ (ad:Addr) (w:World),(Instr.fieldAt 167 (.pointer (some ad)) 0).run Tryz.prog w=.ok (.pointer (some (ad.add 0))) w:=fun _ _=>by kernel_rfl
theorem M0:∀ (ad:Addr) (w:World),(Instr.fieldAt 167 (.pointer (some ad)) 1).run Tryz.prog w=.ok (.pointer (some (ad.add 1))) w:=fun _ _=>by kernel_rfl
theorem jE:∀ (ad:Addr) (w:World),(Instr.fieldAt 24 (.pointer (some ad)) 0).run Tryz.prog w=.ok (.pointer (some (ad.add 0))) w:=fun _ _=>by kernel_rfl
theorem Du:∀ (ad:Addr) (w:World),(Instr.fieldAt 31 (.pointer (some ad)) 0).run Tryz.prog w=.ok (.pointer (some (ad.add 0))) w:=fun _ _=>by kernel_rfl
theorem Kn:∀ (ad:Addr) (w:World),(Instr.fieldAt 33 (.pointer (some ad)) 0).run Tryz.prog w=.ok (.pointer (some (ad.add 0))) w:=fun _ _=>by kernel_rfl
theorem Ja:∀ (ad:Addr) (w:World),(Instr.fieldAt 33 (.pointer (some ad)) 1).run Tryz.prog w=.ok (.pointer (some (ad.add 1))) w:=fun _ _=>by kernel_rfl
theorem Kc:∀ (ad:Addr) (w:World),(Instr.fieldAt 33 (.pointer (some ad)) 2).run Tryz.prog w=.ok (.pointer (some (ad.add 2))) w:=fun _ _=>by kernel_rfl
theorem P8:∀ (ad:Addr) (w:World),(Instr.fieldAt 65 (.pointer (some ad)) 0).run Tryz.prog w=.ok (.pointer (some (ad.add 0))) w:=fun _ _=>by kernel_rfl
theorem N8:∀ (ad:Addr) (w:World),(Instr.fieldAt 65 (.pointer (some ad)) 1).run Tryz.prog w=.ok (.pointer (some (ad.add 1))) w:=fun _ _=>by kernel_rfl
theorem Ko:∀ (ad:Addr) (w:World),(Instr.fieldAt 65 (.pointer (some ad)) 2).run Tryz.prog w=.ok (.pointer (some (ad.add 2))) w:=fun _ _=>by kernel_rfl
theorem Xp:(Tryz.prog.info? 107).map (fun i=>(i.zero,i.size,i.bytes))=some (some (.agg #[.int .i64 0,.int .i64 0]),2,16):=by kernel_rfl
theorem Q3:(Tryz.prog.info? 122).map (fun i=>(i.zero,i.size,i.bytes))=some (some (.agg #[.int .i64 0,.int .i64 0,.int .i64 0,.int .i64 0]),4,32):=by kernel_rfl
theorem jI:(Tryz.prog.info? 131).map (fun i=>(i.zero,i.size,i.bytes))=some (some (.agg #[.int .i64 0,.int .i64 0,.int .i64 0,.int .i64 0]),4,32):=by kernel_rfl
theorem fD:(Tryz.prog.info? 167).map (fun i=>(i.zero,i.size,i.bytes))=some (some (.agg #[.int .i64 0,.int .i64 0]),2,16):=by kernel_rfl
theorem Ml:(Tryz.prog.info? 2).map (fun i=>(i.zero,i.size,i.bytes))=some (some (.int .i64 0),1,8):=by kernel_rfl
theorem cB:(Tryz.prog.info? 33).map (fun i=>(i.zero,i.size,i.bytes))=some (some (.agg #[.int .i64 0,.int .i64 0,.int .i64 0]),3,24):=by kernel_rfl
theorem dM:(Tryz.prog.info? 4).map (fun i=>(i.zero,i.size,i.bytes))=some (some (.bool false),1,1):=by kernel_rfl
theorem jC:(Tryz.prog.info? 56).map (fun i=>(i.zero,i.size,i.bytes))=some (some (.slice none 0 0),1,24):=by kernel_rfl
theorem Qb:(Tryz.prog.info? 77).map (fun i=>(i.zero,i.size,i.bytes))=some (some (.slice none 0 0),1,24):=by kernel_rfl
theorem Tm:Po Tryz.prog 118 Gh:=by
  obtain ⟨i,hi,_⟩:=Option.map_eq_some_iff.1 (by kernel_rfl:(Tryz.prog.info? 2).map (·.size)=some 1)
  exact mH (p:=fun x=>x.e0) (q:=fun x=>x.e1) (fun ⟨_,_⟩ ⟨_,_⟩ h1 h2=>by cases h1; cases h2; rfl) (fun _=>rfl) Tryz.underlying118 hi (by kernel_rfl) Tryz.underlying2 (by kernel_rfl)
theorem uR:Po Tryz.prog 2 (Value.int .i64):=sN Tryz.underlying2
theorem gJ:naB Tryz.prog 101=true:=by kernel_rfl
theorem Vk:naB Tryz.prog 102=true:=by kernel_rfl
theorem Lx:naB Tryz.prog 109=true:=by kernel_rfl
theorem gB:naB Tryz.prog 199=true:=by kernel_rfl
theorem na2:naB Tryz.prog 2=true:=by kernel_rfl
theorem uU:naB Tryz.prog 22=true:=by kernel_rfl
theorem Gu:naB Tryz.prog 29=true:=by kernel_rfl
theorem na3:naB Tryz.prog 3=true:=by kernel_rfl
theorem na4:naB Tryz.prog 4=true:=by kernel_rfl
theorem Ih:naB Tryz.prog 56=true:=by kernel_rfl
theorem Pf:naB Tryz.prog 63=true:=by kernel_rfl
theorem Y8:naB Tryz.prog 70=true:=by kernel_rfl
theorem Jh:naB Tryz.prog 77=true:=by kernel_rfl
theorem wK:naB Tryz.prog 89=true:=by kernel_rfl
theorem Vg:Tryz.prog.eqGuardType Tryz.prog.depth 107=false:=by kernel_rfl
theorem nX:Tryz.prog.eqGuardType Tryz.prog.depth 167=false:=by kernel_rfl
theorem G9:(Tryz.prog.info? 107).map (·.size)=some 2:=by kernel_rfl
theorem Y3:(Tryz.prog.info? 122).map (·.size)=some 4:=by kernel_rfl
theorem Nn:(Tryz.prog.info? 127).map (·.size)=some 2:=by kernel_rfl
theorem uK:(Tryz.prog.info? 131).map (·.size)=some 4:=by kernel_rfl
theorem vD:(Tryz.prog.info? 142).map (·.size)=some 2:=by kernel_rfl
theorem Ji:(Tryz.prog.info? 167).map (·.size)=some 2:=by kernel_rfl
theorem sz2:(Tryz.prog.info? 2).map (·.size)=some 1:=by kernel_rfl
theorem Ql:(Tryz.prog.info? 33).map (·.size)=some 3:=by kernel_rfl
theorem sz4:(Tryz.prog.info? 4).map (·.size)=some 1:=by kernel_rfl
theorem Pp:(Tryz.prog.info? 56).map (·.size)=some 1:=by kernel_rfl
theorem Jg:(Tryz.prog.info? 77).map (·.size)=some 1:=by kernel_rfl
theorem xB:(Tryz.prog.info? 89).map (·.size)=some 1:=by kernel_rfl
abbrev sM:=@Tryz.underlying101
abbrev mD:=@Tryz.underlying102
abbrev M8:=@Tryz.underlying109
abbrev wI:=@Tryz.underlying116
abbrev Hf:=@Tryz.underlying131
abbrev Jp:=@Tryz.underlying165
abbrev Mq:=@Tryz.underlying171
abbrev Qc:=@Tryz.underlying174
abbrev qM:=@Tryz.underlying179
abbrev lF:=@Tryz.underlying189
abbrev uN:=@Tryz.underlying199
abbrev U2:=@Tryz.underlying2
abbrev U22:=@Tryz.underlying22
abbrev U29:=@Tryz.underlying29
abbrev U3:=@Tryz.underlying3
abbrev U37:=@Tryz.underlying37
abbrev U56:=@Tryz.underlying56
abbrev U63:=@Tryz.underlying63
abbrev U70:=@Tryz.underlying70
abbrev U77:=@Tryz.underlying77
abbrev U89:=@Tryz.underlying89
theorem Jz:(Tryz.prog.info? 107).map (·.zero)=some (some (.agg #[.int .i64 0,.int .i64 0])):=by kernel_rfl
theorem Ue:(Tryz.prog.info? 111).map (·.zero)=some (some (.agg #[.slice none 0 0,.slice none 0 0,.slice none 0 0])):=by kernel_rfl
theorem wO:(Tryz.prog.info? 118).map (·.zero)=some (some (.agg #[.int .i64 0,.int .i64 0])):=by kernel_rfl
theorem oD:(Tryz.prog.info? 122).map (·.zero)=some (some (.agg #[.int .i64 0,.int .i64 0,.int .i64 0,.int .i64 0])):=by kernel_rfl
theorem Rk:(Tryz.prog.info? 127).map (·.zero)=some (some (.agg #[.int .i64 0,.int .i64 0])):=by kernel_rfl
theorem Ld:(Tryz.prog.info? 131).map (·.zero)=some (some (.agg #[.int .i64 0,.int .i64 0,.int .i64 0,.int .i64 0])):=by kernel_rfl
theorem Pk:(Tryz.prog.info? 167).map (·.zero)=some (some (.agg #[.int .i64 0,.int .i64 0])):=by kernel_rfl
theorem gH:(Tryz.prog.info? 174).map (·.zero)=some (some (.agg #[.int .i64 0,.int .i64 0,.int .i64 0,.int .i64 0,.int .i64 0,.int .i64 0,.int .i64 0,.int .i64 0])):=by kernel_rfl
theorem wR:(Tryz.prog.info? 199).map (·.zero)=some (some (.map none)):=by kernel_rfl
theorem zr2:(Tryz.prog.info? 2).map (·.zero)=some (some (.int .i64 0)):=by kernel_rfl
theorem zr3:(Tryz.prog.info? 3).map (·.zero)=some (some (.int .i64 0)):=by kernel_rfl
theorem Lm:(Tryz.prog.info? 31).map (·.zero)=some (some (.agg #[.slice none 0 0])):=by kernel_rfl
theorem lX:(Tryz.prog.info? 33).map (·.zero)=some (some (.agg #[.int .i64 0,.int .i64 0,.int .i64 0])):=by kernel_rfl
theorem zr4:(Tryz.prog.info? 4).map (·.zero)=some (some (.bool false)):=by kernel_rfl
theorem Zf:(Tryz.prog.info? 56).map (·.zero)=some (some (.slice none 0 0)):=by kernel_rfl
theorem Qr:(Tryz.prog.info? 65).map (·.zero)=some (some (.agg #[.slice none 0 0,.slice none 0 0,.slice none 0 0])):=by kernel_rfl
theorem wP:FK Tryz.prog 10 Tryz.f10:=⟨Tryz.func10,by kernel_rfl,rfl⟩
theorem wT:FK Tryz.prog 11 Tryz.f11:=⟨Tryz.func11,by kernel_rfl,rfl⟩
theorem aP:FK Tryz.prog 12 Tryz.f12:=⟨Tryz.func12,by kernel_rfl,rfl⟩
theorem Ph:FK Tryz.prog 15 Tryz.f15:=⟨Tryz.func15,by kernel_rfl,rfl⟩
theorem vT:FK Tryz.prog 16 Tryz.f16:=⟨Tryz.func16,by kernel_rfl,rfl⟩
theorem Uw:FK Tryz.prog 18 Tryz.f18:=⟨Tryz.func18,by kernel_rfl,rfl⟩
theorem pR:FK Tryz.prog 19 Tryz.f19:=⟨Tryz.func19,by kernel_rfl,rfl⟩
theorem wX:FK Tryz.prog 20 Tryz.f20:=⟨Tryz.func20,by kernel_rfl,rfl⟩
theorem pI:FK Tryz.prog 21 Tryz.f21:=⟨Tryz.func21,by kernel_rfl,rfl⟩
theorem uS:FK Tryz.prog 24 Tryz.f24:=⟨Tryz.func24,by kernel_rfl,rfl⟩
theorem wZ:FK Tryz.prog 25 Tryz.f25:=⟨Tryz.func25,by kernel_rfl,rfl⟩
theorem uY:FK Tryz.prog 26 Tryz.f26:=⟨Tryz.func26,by kernel_rfl,rfl⟩
theorem oO:FK Tryz.prog 27 Tryz.f27:=⟨Tryz.func27,by kernel_rfl,rfl⟩
theorem wL:FK Tryz.prog 32 Tryz.f32:=⟨Tryz.func32,by kernel_rfl,rfl⟩
theorem oV:FK Tryz.prog 33 Tryz.f33:=⟨Tryz.func33,by kernel_rfl,rfl⟩
theorem vS:FK Tryz.prog 39 Tryz.f39:=⟨Tryz.func39,by kernel_rfl,rfl⟩
theorem oH:FK Tryz.prog 40 Tryz.f40:=⟨Tryz.func40,by kernel_rfl,rfl⟩
theorem wJ:FK Tryz.prog 41 Tryz.f41:=⟨Tryz.func41,by kernel_rfl,rfl⟩
theorem pE:FK Tryz.prog 42 Tryz.f42:=⟨Tryz.func42,by kernel_rfl,rfl⟩
theorem nZ:FK Tryz.prog 43 Tryz.f43:=⟨Tryz.func43,by kernel_rfl,rfl⟩
theorem vC:FK Tryz.prog 44 Tryz.f44:=⟨Tryz.func44,by kernel_rfl,rfl⟩
theorem aQ:FK Tryz.prog 45 Tryz.f45:=⟨Tryz.func45,by kernel_rfl,rfl⟩
theorem xO:FK Tryz.prog 46 Tryz.f46:=⟨Tryz.func46,by kernel_rfl,rfl⟩
theorem vK:FK Tryz.prog 47 Tryz.f47:=⟨Tryz.func47,by kernel_rfl,rfl⟩
theorem wM:FK Tryz.prog 48 Tryz.f48:=⟨Tryz.func48,by kernel_rfl,rfl⟩
theorem O0:FK Tryz.prog 49 Tryz.f49:=⟨Tryz.func49,by kernel_rfl,rfl⟩
theorem vE:FK Tryz.prog 50 Tryz.f50:=⟨Tryz.func50,by kernel_rfl,rfl⟩
theorem wY:FK Tryz.prog 51 Tryz.f51:=⟨Tryz.func51,by kernel_rfl,rfl⟩
theorem uO:FK Tryz.prog 52 Tryz.f52:=⟨Tryz.func52,by kernel_rfl,rfl⟩
theorem wG:FK Tryz.prog 53 Tryz.f53:=⟨Tryz.func53,by kernel_rfl,rfl⟩
theorem pJ:FK Tryz.prog 54 Tryz.f54:=⟨Tryz.func54,by kernel_rfl,rfl⟩
theorem wS:FK Tryz.prog 55 Tryz.f55:=⟨Tryz.func55,by kernel_rfl,rfl⟩
theorem vX:FK Tryz.prog 56 Tryz.f56:=⟨Tryz.func56,by kernel_rfl,rfl⟩
theorem uQ:FK Tryz.prog 61 Tryz.f61:=⟨Tryz.func61,by kernel_rfl,rfl⟩
theorem Y0:FK Tryz.prog 62 Tryz.f62:=⟨Tryz.func62,by kernel_rfl,rfl⟩
theorem X9:FK Tryz.prog 63 Tryz.f63:=⟨Tryz.func63,by kernel_rfl,rfl⟩
theorem Og:FK Tryz.prog 64 Tryz.f64:=⟨Tryz.func64,by kernel_rfl,rfl⟩
theorem uW:FK Tryz.prog 65 Tryz.f65:=⟨Tryz.func65,by kernel_rfl,rfl⟩
theorem wF:FK Tryz.prog 66 Tryz.f66:=⟨Tryz.func66,by kernel_rfl,rfl⟩
theorem wQ:FK Tryz.prog 67 Tryz.f67:=⟨Tryz.func67,by kernel_rfl,rfl⟩
theorem pY:FK Tryz.prog 68 Tryz.f68:=⟨Tryz.func68,by kernel_rfl,rfl⟩
theorem vL:FK Tryz.prog 69 Tryz.f69:=⟨Tryz.func69,by kernel_rfl,rfl⟩
theorem bC:FK Tryz.prog 70 Tryz.f70:=⟨Tryz.func70,by kernel_rfl,rfl⟩
theorem fV:FK Tryz.prog 71 Tryz.f71:=⟨Tryz.func71,by kernel_rfl,rfl⟩
theorem nY:FK Tryz.prog 72 Tryz.f72:=⟨Tryz.func72,by kernel_rfl,rfl⟩
theorem uT:FK Tryz.prog 73 Tryz.f73:=⟨Tryz.func73,by kernel_rfl,rfl⟩
theorem wN:FK Tryz.prog 74 Tryz.f74:=⟨Tryz.func74,by kernel_rfl,rfl⟩
theorem vH:FK Tryz.prog 75 Tryz.f75:=⟨Tryz.func75,by kernel_rfl,rfl⟩
theorem Jt:FK Tryz.prog 76 Tryz.f76:=⟨Tryz.func76,by kernel_rfl,rfl⟩
theorem T9:FK Tryz.prog 77 Tryz.f77:=⟨Tryz.func77,by kernel_rfl,rfl⟩
theorem Ym:FK Tryz.prog 78 Tryz.f78:=⟨Tryz.func78,by kernel_rfl,rfl⟩
theorem vJ:FK Tryz.prog 79 Tryz.f79:=⟨Tryz.func79,by kernel_rfl,rfl⟩
theorem Uc:FK Tryz.prog 80 Tryz.f80:=⟨Tryz.func80,by kernel_rfl,rfl⟩
theorem wE:FK Tryz.prog 81 Tryz.f81:=⟨Tryz.func81,by kernel_rfl,rfl⟩
theorem vU:FK Tryz.prog 82 Tryz.f82:=⟨Tryz.func82,by kernel_rfl,rfl⟩
theorem Ti:FK Tryz.prog 83 Tryz.f83:=⟨Tryz.func83,by kernel_rfl,rfl⟩
theorem Yc:FK Tryz.prog 84 Tryz.f84:=⟨Tryz.func84,by kernel_rfl,rfl⟩
theorem pU:FK Tryz.prog 85 Tryz.f85:=⟨Tryz.func85,by kernel_rfl,rfl⟩
theorem xN:FK Tryz.prog 86 Tryz.f86:=⟨Tryz.func86,by kernel_rfl,rfl⟩
theorem bY:FK Tryz.prog 87 Tryz.f87:=⟨Tryz.func87,by kernel_rfl,rfl⟩
theorem nV:FK Tryz.prog 88 Tryz.f88:=⟨Tryz.func88,by kernel_rfl,rfl⟩
theorem xR:FK Tryz.prog 89 Tryz.f89:=⟨Tryz.func89,by kernel_rfl,rfl⟩
theorem aN:FK Tryz.prog 90 Tryz.f90:=⟨Tryz.func90,by kernel_rfl,rfl⟩
theorem Nr:FK Tryz.prog 91 Tryz.f91:=⟨Tryz.func91,by kernel_rfl,rfl⟩
theorem iZ:FK Tryz.prog 92 Tryz.f92:=⟨Tryz.func92,by kernel_rfl,rfl⟩
theorem Lc:FK Tryz.prog 93 Tryz.f93:=⟨Tryz.func93,by kernel_rfl,rfl⟩
theorem X3:FK Tryz.prog 94 Tryz.f94:=⟨Tryz.func94,by kernel_rfl,rfl⟩
theorem Uy:FK Tryz.prog 95 Tryz.f95:=⟨Tryz.func95,by kernel_rfl,rfl⟩
theorem wV:FK Tryz.prog 96 Tryz.f96:=⟨Tryz.func96,by kernel_rfl,rfl⟩
theorem vF:FK Tryz.prog 97 Tryz.f97:=⟨Tryz.func97,by kernel_rfl,rfl⟩
theorem pW:FK Tryz.prog 98 Tryz.f98:=⟨Tryz.func98,by kernel_rfl,rfl⟩
theorem nW:FK Tryz.prog 99 Tryz.f99:=⟨Tryz.func99,by kernel_rfl,rfl⟩
theorem iV:FK Tryz.prog 100 Tryz.f100:=⟨Tryz.func100,by kernel_rfl,rfl⟩
theorem jP:FK Tryz.prog 101 Tryz.f101:=⟨Tryz.func101,by kernel_rfl,rfl⟩
theorem sG:FK Tryz.prog 102 Tryz.f102:=⟨Tryz.func102,by kernel_rfl,rfl⟩
theorem sJ:FK Tryz.prog 103 Tryz.f103:=⟨Tryz.func103,by kernel_rfl,rfl⟩
theorem qO:FK Tryz.prog 104 Tryz.f104:=⟨Tryz.func104,by kernel_rfl,rfl⟩
theorem rA:FK Tryz.prog 105 Tryz.f105:=⟨Tryz.func105,by kernel_rfl,rfl⟩
theorem rE:FK Tryz.prog 106 Tryz.f106:=⟨Tryz.func106,by kernel_rfl,rfl⟩
theorem tC:FK Tryz.prog 107 Tryz.f107:=⟨Tryz.func107,by kernel_rfl,rfl⟩
theorem qD:FK Tryz.prog 108 Tryz.f108:=⟨Tryz.func108,by kernel_rfl,rfl⟩
theorem qU:FK Tryz.prog 109 Tryz.f109:=⟨Tryz.func109,by kernel_rfl,rfl⟩
theorem Wn:FK Tryz.prog 110 Tryz.f110:=⟨Tryz.func110,by kernel_rfl,rfl⟩
theorem tY:FK Tryz.prog 111 Tryz.f111:=⟨Tryz.func111,by kernel_rfl,rfl⟩
theorem uC:FK Tryz.prog 112 Tryz.f112:=⟨Tryz.func112,by kernel_rfl,rfl⟩
theorem qH:FK Tryz.prog 113 Tryz.f113:=⟨Tryz.func113,by kernel_rfl,rfl⟩
theorem tX:FK Tryz.prog 114 Tryz.f114:=⟨Tryz.func114,by kernel_rfl,rfl⟩
theorem tH:FK Tryz.prog 115 Tryz.f115:=⟨Tryz.func115,by kernel_rfl,rfl⟩
theorem Xi:FK Tryz.prog 116 Tryz.f116:=⟨Tryz.func116,by kernel_rfl,rfl⟩
theorem Sj:FK Tryz.prog 117 Tryz.f117:=⟨Tryz.func117,by kernel_rfl,rfl⟩
theorem aF:FK Tryz.prog 118 Tryz.f118:=⟨Tryz.func118,by kernel_rfl,rfl⟩
theorem Zo:FK Tryz.prog 119 Tryz.f119:=⟨Tryz.func119,by kernel_rfl,rfl⟩
theorem Tg:FK Tryz.prog 120 Tryz.f120:=⟨Tryz.func120,by kernel_rfl,rfl⟩
theorem Z4:FK Tryz.prog 121 Tryz.f121:=⟨Tryz.func121,by kernel_rfl,rfl⟩
theorem Z8:FK Tryz.prog 122 Tryz.f122:=⟨Tryz.func122,by kernel_rfl,rfl⟩
theorem uI:FK Tryz.prog 123 Tryz.f123:=⟨Tryz.func123,by kernel_rfl,rfl⟩
theorem Q5:FK Tryz.prog 124 Tryz.f124:=⟨Tryz.func124,by kernel_rfl,rfl⟩
theorem uA:FK Tryz.prog 125 Tryz.f125:=⟨Tryz.func125,by kernel_rfl,rfl⟩
theorem fB:FK Tryz.prog 126 Tryz.f126:=⟨Tryz.func126,by kernel_rfl,rfl⟩
theorem rX:FK Tryz.prog 127 Tryz.f127:=⟨Tryz.func127,by kernel_rfl,rfl⟩
theorem qK:FK Tryz.prog 128 Tryz.f128:=⟨Tryz.func128,by kernel_rfl,rfl⟩
theorem qF:FK Tryz.prog 129 Tryz.f129:=⟨Tryz.func129,by kernel_rfl,rfl⟩
theorem Q8:FK Tryz.prog 130 Tryz.f130:=⟨Tryz.func130,by kernel_rfl,rfl⟩
theorem Wl:FK Tryz.prog 131 Tryz.f131:=⟨Tryz.func131,by kernel_rfl,rfl⟩
theorem rO:FK Tryz.prog 132 Tryz.f132:=⟨Tryz.func132,by kernel_rfl,rfl⟩
theorem jT:FK Tryz.prog 133 Tryz.f133:=⟨Tryz.func133,by kernel_rfl,rfl⟩
theorem qW:FK Tryz.prog 134 Tryz.f134:=⟨Tryz.func134,by kernel_rfl,rfl⟩
theorem Zc:FK Tryz.prog 135 Tryz.f135:=⟨Tryz.func135,by kernel_rfl,rfl⟩
theorem Vv:FK Tryz.prog 136 Tryz.f136:=⟨Tryz.func136,by kernel_rfl,rfl⟩
theorem Qs:FK Tryz.prog 137 Tryz.f137:=⟨Tryz.func137,by kernel_rfl,rfl⟩
theorem Qx:FK Tryz.prog 138 Tryz.f138:=⟨Tryz.func138,by kernel_rfl,rfl⟩
theorem V9:FK Tryz.prog 139 Tryz.f139:=⟨Tryz.func139,by kernel_rfl,rfl⟩
theorem gM:FK Tryz.prog 140 Tryz.f140:=⟨Tryz.func140,by kernel_rfl,rfl⟩
theorem jR:FK Tryz.prog 141 Tryz.f141:=⟨Tryz.func141,by kernel_rfl,rfl⟩
theorem sK:FK Tryz.prog 142 Tryz.f142:=⟨Tryz.func142,by kernel_rfl,rfl⟩
theorem tO:FK Tryz.prog 143 Tryz.f143:=⟨Tryz.func143,by kernel_rfl,rfl⟩
theorem Xb:FK Tryz.prog 144 Tryz.f144:=⟨Tryz.func144,by kernel_rfl,rfl⟩
theorem Zw:FK Tryz.prog 145 Tryz.f145:=⟨Tryz.func145,by kernel_rfl,rfl⟩
theorem iQ:FK Tryz.prog 146 Tryz.f146:=⟨Tryz.func146,by kernel_rfl,rfl⟩
theorem Z9:FK Tryz.prog 147 Tryz.f147:=⟨Tryz.func147,by kernel_rfl,rfl⟩
theorem Zl:FK Tryz.prog 148 Tryz.f148:=⟨Tryz.func148,by kernel_rfl,rfl⟩
theorem iU:FK Tryz.prog 149 Tryz.f149:=⟨Tryz.func149,by kernel_rfl,rfl⟩
theorem Ws:FK Tryz.prog 150 Tryz.f150:=⟨Tryz.func150,by kernel_rfl,rfl⟩
theorem Xm:FK Tryz.prog 151 Tryz.f151:=⟨Tryz.func151,by kernel_rfl,rfl⟩
theorem fI:FK Tryz.prog 152 Tryz.f152:=⟨Tryz.func152,by kernel_rfl,rfl⟩
theorem qQ:FK Tryz.prog 153 Tryz.f153:=⟨Tryz.func153,by kernel_rfl,rfl⟩
theorem sD:FK Tryz.prog 154 Tryz.f154:=⟨Tryz.func154,by kernel_rfl,rfl⟩
theorem Zr:FK Tryz.prog 155 Tryz.f155:=⟨Tryz.func155,by kernel_rfl,rfl⟩
theorem rZ:FK Tryz.prog 156 Tryz.f156:=⟨Tryz.func156,by kernel_rfl,rfl⟩
theorem qI:FK Tryz.prog 157 Tryz.f157:=⟨Tryz.func157,by kernel_rfl,rfl⟩
theorem sP:FK Tryz.prog 158 Tryz.f158:=⟨Tryz.func158,by kernel_rfl,rfl⟩
theorem Vu:FK Tryz.prog 159 Tryz.f159:=⟨Tryz.func159,by kernel_rfl,rfl⟩
theorem iK:FK Tryz.prog 160 Tryz.f160:=⟨Tryz.func160,by kernel_rfl,rfl⟩
theorem uE:FK Tryz.prog 161 Tryz.f161:=⟨Tryz.func161,by kernel_rfl,rfl⟩
theorem qP:FK Tryz.prog 162 Tryz.f162:=⟨Tryz.func162,by kernel_rfl,rfl⟩
theorem sO:FK Tryz.prog 163 Tryz.f163:=⟨Tryz.func163,by kernel_rfl,rfl⟩
theorem qN:FK Tryz.prog 165 Tryz.f165:=⟨Tryz.func165,by kernel_rfl,rfl⟩
theorem sH:FK Tryz.prog 166 Tryz.f166:=⟨Tryz.func166,by kernel_rfl,rfl⟩
theorem rQ:FK Tryz.prog 167 Tryz.f167:=⟨Tryz.func167,by kernel_rfl,rfl⟩
theorem rF:FK Tryz.prog 168 Tryz.f168:=⟨Tryz.func168,by kernel_rfl,rfl⟩
theorem tK:FK Tryz.prog 169 Tryz.f169:=⟨Tryz.func169,by kernel_rfl,rfl⟩
theorem iG:FK Tryz.prog 170 Tryz.f170:=⟨Tryz.func170,by kernel_rfl,rfl⟩
theorem rJ:FK Tryz.prog 171 Tryz.f171:=⟨Tryz.func171,by kernel_rfl,rfl⟩
theorem mixed:Tryz.prog.follows .mixedOrders=true:=by kernel_rfl
end Go.Proofs.YtbjfinndngafoaaGreat
