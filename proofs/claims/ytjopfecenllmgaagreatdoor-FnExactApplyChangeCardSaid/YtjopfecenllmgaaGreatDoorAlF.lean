/-
  What the translation says of its types and functions.
-/
import Derived.Test.YtjopfecenllmgaaGreatDoorProg
import Derived.Test.YtjopfecenllmgaaGreatDoorAlM
set_option linter.unusedSimpArgs false
set_option linter.unusedVariables false
namespace Go.Proofs.YtjopfecenllmgaaGreatDoor
open Go.RowKit
theorem Yf:agB Tryz.prog 142 4=true:=by kernel_rfl
theorem U6:agB Tryz.prog 153 3=true:=by kernel_rfl
theorem Ni:agB Tryz.prog 163 5=true:=by kernel_rfl
theorem Nk:agB Tryz.prog 168 2=true:=by kernel_rfl
theorem Aan:agB Tryz.prog 179 5=true:=by kernel_rfl
theorem Aaw:agB Tryz.prog 181 3=true:=by kernel_rfl
theorem Lv:agB Tryz.prog 187 2=true:=by kernel_rfl
theorem zJ:agB Tryz.prog 211 2=true:=by kernel_rfl
theorem Yy:agB Tryz.prog 228 4=true:=by kernel_rfl
theorem Td:agB Tryz.prog 233 2=true:=by kernel_rfl
theorem mG:agB Tryz.prog 25 3=true:=by kernel_rfl
theorem Aar:agB Tryz.prog 28 1=true:=by kernel_rfl
theorem AaS:agB Tryz.prog 31 2=true:=by kernel_rfl
theorem Aau:agB Tryz.prog 34 2=true:=by kernel_rfl
theorem zM:agB Tryz.prog 37 5=true:=by kernel_rfl
theorem qU:agB Tryz.prog 39 12=true:=by kernel_rfl
theorem nY:agB Tryz.prog 41 14=true:=by kernel_rfl
theorem Eu:agB Tryz.prog 47 3=true:=by kernel_rfl
theorem O0:agB Tryz.prog 53 1=true:=by kernel_rfl
theorem Oe:agB Tryz.prog 56 2=true:=by kernel_rfl
theorem R9:agB Tryz.prog 57 2=true:=by kernel_rfl
theorem Rw:agB Tryz.prog 60 5=true:=by kernel_rfl
theorem Mf:agB Tryz.prog 62 12=true:=by kernel_rfl
theorem bN:agB Tryz.prog 64 14=true:=by kernel_rfl
theorem dZ {a0 a1 a2 a3 b0 b1 b2 b3:Bool} {w:World}:(Op.equal 142 (.agg [.bool a0,.bool a1,.bool a2,.bool a3].toArray) (.agg [.bool b0,.bool b1,.bool b2,.bool b3].toArray)).run Tryz.prog w=.ok (decide ((a0,a1,a2,a3)=(b0,b1,b2,b3))) w:=by
  obtain ⟨i,hi,_⟩:=Option.map_eq_some_iff.1 (by kernel_rfl:(Tryz.prog.info? 4).map (·.size)=some 1)
  exact rQ Tryz.underlying142 hi (by kernel_rfl) Tryz.underlying4 (by kernel_rfl)
theorem Zc {a0 a1 b0 b1:Int} {w:World}:(Op.equal 168 (.agg [.int .i64 a0,.int .i64 a1].toArray) (.agg [.int .i64 b0,.int .i64 b1].toArray)).run Tryz.prog w=.ok (decide ((a0,a1)=(b0,b1))) w:=qM Tryz.underlying168 (by kernel_rfl) (by decide) Tryz.underlying2 Tryz.underlying2 (by kernel_rfl) (by kernel_rfl)
theorem Ot:∀ (ad:Addr) (w:World),(Instr.fieldAt 153 (.pointer (some ad)) 0).run Tryz.prog w=.ok (.pointer (some (ad.add 0))) w:=fun _ _=>by kernel_rfl
theorem Pi:∀ (ad:Addr) (w:World),(Instr.fieldAt 153 (.pointer (some ad)) 1).run Tryz.prog w=.ok (.pointer (some (ad.add 1))) w:=fun _ _=>by kernel_rfl
theorem Qp:∀ (ad:Addr) (w:World),(Instr.fieldAt 153 (.pointer (some ad)) 2).run Tryz.prog w=.ok (.pointer (some (ad.add 2))) w:=fun _ _=>by kernel_rfl
theorem Rx:∀ (ad:Addr) (w:World),(Instr.fieldAt 163 (.pointer (some ad)) 0).run Tryz.prog w=.ok (.pointer (some (ad.add 0))) w:=fun _ _=>by kernel_rfl
theorem Rv:∀ (ad:Addr) (w:World),(Instr.fieldAt 163 (.pointer (some ad)) 1).run Tryz.prog w=.ok (.pointer (some (ad.add 1))) w:=fun _ _=>by kernel_rfl
theorem R4:∀ (ad:Addr) (w:World),(Instr.fieldAt 163 (.pointer (some ad)) 2).run Tryz.prog w=.ok (.pointer (some (ad.add 2))) w:=fun _ _=>by kernel_rfl
theorem Rz:∀ (ad:Addr) (w:World),(Instr.fieldAt 163 (.pointer (some ad)) 3).run Tryz.prog w=.ok (.pointer (some (ad.add 3))) w:=fun _ _=>by kernel_rfl
theorem M0:∀ (ad:Addr) (w:World),(Instr.fieldAt 163 (.pointer (some ad)) 4).run Tryz.prog w=.ok (.pointer (some (ad.add 4))) w:=fun _ _=>by kernel_rfl
theorem K5:∀ (ad:Addr) (w:World),(Instr.fieldAt 168 (.pointer (some ad)) 0).run Tryz.prog w=.ok (.pointer (some (ad.add 0))) w:=fun _ _=>by kernel_rfl
theorem Oq:∀ (ad:Addr) (w:World),(Instr.fieldAt 168 (.pointer (some ad)) 1).run Tryz.prog w=.ok (.pointer (some (ad.add 1))) w:=fun _ _=>by kernel_rfl
theorem qF:∀ (ad:Addr) (w:World),(Instr.fieldAt 179 (.pointer (some ad)) 0).run Tryz.prog w=.ok (.pointer (some (ad.add 0))) w:=fun _ _=>by kernel_rfl
theorem sK:∀ (ad:Addr) (w:World),(Instr.fieldAt 179 (.pointer (some ad)) 1).run Tryz.prog w=.ok (.pointer (some (ad.add 1))) w:=fun _ _=>by kernel_rfl
theorem sM:∀ (ad:Addr) (w:World),(Instr.fieldAt 179 (.pointer (some ad)) 2).run Tryz.prog w=.ok (.pointer (some (ad.add 2))) w:=fun _ _=>by kernel_rfl
theorem pQ:∀ (ad:Addr) (w:World),(Instr.fieldAt 179 (.pointer (some ad)) 3).run Tryz.prog w=.ok (.pointer (some (ad.add 3))) w:=fun _ _=>by kernel_rfl
theorem pX:∀ (ad:Addr) (w:World),(Instr.fieldAt 179 (.pointer (some ad)) 4).run Tryz.prog w=.ok (.pointer (some (ad.add 4))) w:=fun _ _=>by kernel_rfl
theorem rH:∀ (ad:Addr) (w:World),(Instr.fieldAt 181 (.pointer (some ad)) 0).run Tryz.prog w=.ok (.pointer (some (ad.add 0))) w:=fun _ _=>by kernel_rfl
theorem qI:∀ (ad:Addr) (w:World),(Instr.fieldAt 181 (.pointer (some ad)) 1).run Tryz.prog w=.ok (.pointer (some (ad.add 1))) w:=fun _ _=>by kernel_rfl
theorem rE:∀ (ad:Addr) (w:World),(Instr.fieldAt 181 (.pointer (some ad)) 2).run Tryz.prog w=.ok (.pointer (some (ad.add 2))) w:=fun _ _=>by kernel_rfl
theorem aZ:∀ (ad:Addr) (w:World),(Instr.fieldAt 187 (.pointer (some ad)) 0).run Tryz.prog w=.ok (.pointer (some (ad.add 0))) w:=fun _ _=>by kernel_rfl
theorem Z5:∀ (ad:Addr) (w:World),(Instr.fieldAt 187 (.pointer (some ad)) 1).run Tryz.prog w=.ok (.pointer (some (ad.add 1))) w:=fun _ _=>by kernel_rfl
theorem rZ:∀ (ad:Addr) (w:World),(Instr.fieldAt 211 (.pointer (some ad)) 0).run Tryz.prog w=.ok (.pointer (some (ad.add 0))) w:=fun _ _=>by kernel_rfl
theorem qQ:∀ (ad:Addr) (w:World),(Instr.fieldAt 211 (.pointer (some ad)) 1).run Tryz.prog w=.ok (.pointer (some (ad.add 1))) w:=fun _ _=>by kernel_rfl
theorem Tw:∀ (ad:Addr) (w:World),(Instr.fieldAt 233 (.pointer (some ad)) 0).run Tryz.prog w=.ok (.pointer (some (ad.add 0))) w:=fun _ _=>by kernel_rfl
theorem Z4:∀ (ad:Addr) (w:World),(Instr.fieldAt 233 (.pointer (some ad)) 1).run Tryz.prog w=.ok (.pointer (some (ad.add 1))) w:=fun _ _=>by kernel_rfl
theorem kG:∀ (ad:Addr) (w:World),(Instr.fieldAt 25 (.pointer (some ad)) 0).run Tryz.prog w=.ok (.pointer (some (ad.add 0))) w:=fun _ _=>by kernel_rfl
theorem mX:∀ (ad:Addr) (w:World),(Instr.fieldAt 25 (.pointer (some ad)) 1).run Tryz.prog w=.ok (.pointer (some (ad.add 1))) w:=fun _ _=>by kernel_rfl
theorem lN:∀ (ad:Addr) (w:World),(Instr.fieldAt 25 (.pointer (some ad)) 2).run Tryz.prog w=.ok (.pointer (some (ad.add 2))) w:=fun _ _=>by kernel_rfl
theorem lM:∀ (ad:Addr) (w:World),(Instr.fieldAt 28 (.pointer (some ad)) 0).run Tryz.prog w=.ok (.pointer (some (ad.add 0))) w:=fun _ _=>by kernel_rfl
theorem lU:∀ (ad:Addr) (w:World),(Instr.fieldAt 31 (.pointer (some ad)) 0).run Tryz.prog w=.ok (.pointer (some (ad.add 0))) w:=fun _ _=>by kernel_rfl
theorem wV:∀ (ad:Addr) (w:World),(Instr.fieldAt 31 (.pointer (some ad)) 1).run Tryz.prog w=.ok (.pointer (some (ad.add 1))) w:=fun _ _=>by kernel_rfl
theorem yA:∀ (ad:Addr) (w:World),(Instr.fieldAt 34 (.pointer (some ad)) 0).run Tryz.prog w=.ok (.pointer (some (ad.add 0))) w:=fun _ _=>by kernel_rfl
theorem oO:∀ (ad:Addr) (w:World),(Instr.fieldAt 34 (.pointer (some ad)) 1).run Tryz.prog w=.ok (.pointer (some (ad.add 1))) w:=fun _ _=>by kernel_rfl
theorem wF:∀ (ad:Addr) (w:World),(Instr.fieldAt 37 (.pointer (some ad)) 0).run Tryz.prog w=.ok (.pointer (some (ad.add 0))) w:=fun _ _=>by kernel_rfl
theorem wI:∀ (ad:Addr) (w:World),(Instr.fieldAt 37 (.pointer (some ad)) 1).run Tryz.prog w=.ok (.pointer (some (ad.add 1))) w:=fun _ _=>by kernel_rfl
theorem nH:∀ (ad:Addr) (w:World),(Instr.fieldAt 37 (.pointer (some ad)) 2).run Tryz.prog w=.ok (.pointer (some (ad.add 2))) w:=fun _ _=>by kernel_rfl
theorem kH:∀ (ad:Addr) (w:World),(Instr.fieldAt 37 (.pointer (some ad)) 3).run Tryz.prog w=.ok (.pointer (some (ad.add 3))) w:=fun _ _=>by kernel_rfl
theorem mZ:∀ (ad:Addr) (w:World),(Instr.fieldAt 37 (.pointer (some ad)) 4).run Tryz.prog w=.ok (.pointer (some (ad.add 4))) w:=fun _ _=>by kernel_rfl
theorem nZ:∀ (ad:Addr) (w:World),(Instr.fieldAt 39 (.pointer (some ad)) 0).run Tryz.prog w=.ok (.pointer (some (ad.add 0))) w:=fun _ _=>by kernel_rfl
theorem xA:∀ (ad:Addr) (w:World),(Instr.fieldAt 39 (.pointer (some ad)) 1).run Tryz.prog w=.ok (.pointer (some (ad.add 1))) w:=fun _ _=>by kernel_rfl
theorem nR:∀ (ad:Addr) (w:World),(Instr.fieldAt 39 (.pointer (some ad)) 2).run Tryz.prog w=.ok (.pointer (some (ad.add 2))) w:=fun _ _=>by kernel_rfl
theorem pE:∀ (ad:Addr) (w:World),(Instr.fieldAt 39 (.pointer (some ad)) 3).run Tryz.prog w=.ok (.pointer (some (ad.add 3))) w:=fun _ _=>by kernel_rfl
theorem kI:∀ (ad:Addr) (w:World),(Instr.fieldAt 39 (.pointer (some ad)) 4).run Tryz.prog w=.ok (.pointer (some (ad.add 5))) w:=fun _ _=>by kernel_rfl
theorem mH:∀ (ad:Addr) (w:World),(Instr.fieldAt 39 (.pointer (some ad)) 5).run Tryz.prog w=.ok (.pointer (some (ad.add 7))) w:=fun _ _=>by kernel_rfl
theorem wR:∀ (ad:Addr) (w:World),(Instr.fieldAt 41 (.pointer (some ad)) 0).run Tryz.prog w=.ok (.pointer (some (ad.add 0))) w:=fun _ _=>by kernel_rfl
theorem kJ:∀ (ad:Addr) (w:World),(Instr.fieldAt 41 (.pointer (some ad)) 1).run Tryz.prog w=.ok (.pointer (some (ad.add 1))) w:=fun _ _=>by kernel_rfl
theorem mD:∀ (ad:Addr) (w:World),(Instr.fieldAt 41 (.pointer (some ad)) 2).run Tryz.prog w=.ok (.pointer (some (ad.add 2))) w:=fun _ _=>by kernel_rfl
theorem Ju:∀ (ad:Addr) (w:World),(Instr.fieldAt 47 (.pointer (some ad)) 0).run Tryz.prog w=.ok (.pointer (some (ad.add 0))) w:=fun _ _=>by kernel_rfl
theorem Mq:∀ (ad:Addr) (w:World),(Instr.fieldAt 47 (.pointer (some ad)) 1).run Tryz.prog w=.ok (.pointer (some (ad.add 1))) w:=fun _ _=>by kernel_rfl
theorem O6:∀ (ad:Addr) (w:World),(Instr.fieldAt 47 (.pointer (some ad)) 2).run Tryz.prog w=.ok (.pointer (some (ad.add 2))) w:=fun _ _=>by kernel_rfl
theorem J2:∀ (ad:Addr) (w:World),(Instr.fieldAt 53 (.pointer (some ad)) 0).run Tryz.prog w=.ok (.pointer (some (ad.add 0))) w:=fun _ _=>by kernel_rfl
theorem Jr:∀ (ad:Addr) (w:World),(Instr.fieldAt 56 (.pointer (some ad)) 0).run Tryz.prog w=.ok (.pointer (some (ad.add 0))) w:=fun _ _=>by kernel_rfl
theorem Qi:∀ (ad:Addr) (w:World),(Instr.fieldAt 56 (.pointer (some ad)) 1).run Tryz.prog w=.ok (.pointer (some (ad.add 1))) w:=fun _ _=>by kernel_rfl
theorem Ou:∀ (ad:Addr) (w:World),(Instr.fieldAt 57 (.pointer (some ad)) 0).run Tryz.prog w=.ok (.pointer (some (ad.add 0))) w:=fun _ _=>by kernel_rfl
theorem Oi:∀ (ad:Addr) (w:World),(Instr.fieldAt 57 (.pointer (some ad)) 1).run Tryz.prog w=.ok (.pointer (some (ad.add 1))) w:=fun _ _=>by kernel_rfl
theorem Nz:∀ (ad:Addr) (w:World),(Instr.fieldAt 60 (.pointer (some ad)) 0).run Tryz.prog w=.ok (.pointer (some (ad.add 0))) w:=fun _ _=>by kernel_rfl
theorem N7:∀ (ad:Addr) (w:World),(Instr.fieldAt 60 (.pointer (some ad)) 1).run Tryz.prog w=.ok (.pointer (some (ad.add 1))) w:=fun _ _=>by kernel_rfl
theorem Jp:∀ (ad:Addr) (w:World),(Instr.fieldAt 60 (.pointer (some ad)) 2).run Tryz.prog w=.ok (.pointer (some (ad.add 2))) w:=fun _ _=>by kernel_rfl
theorem Kb:∀ (ad:Addr) (w:World),(Instr.fieldAt 60 (.pointer (some ad)) 3).run Tryz.prog w=.ok (.pointer (some (ad.add 3))) w:=fun _ _=>by kernel_rfl
theorem M6:∀ (ad:Addr) (w:World),(Instr.fieldAt 60 (.pointer (some ad)) 4).run Tryz.prog w=.ok (.pointer (some (ad.add 4))) w:=fun _ _=>by kernel_rfl
theorem Jz:∀ (ad:Addr) (w:World),(Instr.fieldAt 62 (.pointer (some ad)) 0).run Tryz.prog w=.ok (.pointer (some (ad.add 0))) w:=fun _ _=>by kernel_rfl
theorem Lf:∀ (ad:Addr) (w:World),(Instr.fieldAt 62 (.pointer (some ad)) 1).run Tryz.prog w=.ok (.pointer (some (ad.add 1))) w:=fun _ _=>by kernel_rfl
theorem M9:∀ (ad:Addr) (w:World),(Instr.fieldAt 62 (.pointer (some ad)) 2).run Tryz.prog w=.ok (.pointer (some (ad.add 2))) w:=fun _ _=>by kernel_rfl
theorem Mm:∀ (ad:Addr) (w:World),(Instr.fieldAt 62 (.pointer (some ad)) 3).run Tryz.prog w=.ok (.pointer (some (ad.add 3))) w:=fun _ _=>by kernel_rfl
theorem M7:∀ (ad:Addr) (w:World),(Instr.fieldAt 62 (.pointer (some ad)) 4).run Tryz.prog w=.ok (.pointer (some (ad.add 5))) w:=fun _ _=>by kernel_rfl
theorem Mc:∀ (ad:Addr) (w:World),(Instr.fieldAt 62 (.pointer (some ad)) 5).run Tryz.prog w=.ok (.pointer (some (ad.add 7))) w:=fun _ _=>by kernel_rfl
theorem Uj:∀ (ad:Addr) (w:World),(Instr.fieldAt 64 (.pointer (some ad)) 0).run Tryz.prog w=.ok (.pointer (some (ad.add 0))) w:=fun _ _=>by kernel_rfl
theorem Ow:∀ (ad:Addr) (w:World),(Instr.fieldAt 64 (.pointer (some ad)) 1).run Tryz.prog w=.ok (.pointer (some (ad.add 1))) w:=fun _ _=>by kernel_rfl
theorem Pv:∀ (ad:Addr) (w:World),(Instr.fieldAt 64 (.pointer (some ad)) 2).run Tryz.prog w=.ok (.pointer (some (ad.add 2))) w:=fun _ _=>by kernel_rfl
theorem gH:(Tryz.prog.info? 153).map (fun i=>(i.zero,i.size,i.bytes))=some (some (.agg #[.int .i64 0,.int .i64 0,.int .i64 0]),3,24):=by kernel_rfl
theorem gK:(Tryz.prog.info? 161).map (fun i=>(i.zero,i.size,i.bytes))=some (some (.slice none 0 0),1,24):=by kernel_rfl
theorem eU:(Tryz.prog.info? 163).map (fun i=>(i.zero,i.size,i.bytes))=some (some (.agg #[.int .i64 0,.int .i64 0,.int .i64 0,.int .i64 0,.int .i64 0]),5,40):=by kernel_rfl
theorem eO:(Tryz.prog.info? 168).map (fun i=>(i.zero,i.size,i.bytes))=some (some (.agg #[.int .i64 0,.int .i64 0]),2,16):=by kernel_rfl
theorem Va:(Tryz.prog.info? 2).map (fun i=>(i.zero,i.size,i.bytes))=some (some (.int .i64 0),1,8):=by kernel_rfl
theorem yZ:(Tryz.prog.info? 233).map (fun i=>(i.zero,i.size,i.bytes))=some (some (.agg #[.int .i64 0,.int .i64 0]),2,16):=by kernel_rfl
theorem uH:(Tryz.prog.info? 32).map (fun i=>(i.zero,i.size,i.bytes))=some (some (.slice none 0 0),1,24):=by kernel_rfl
theorem qR:(Tryz.prog.info? 4).map (fun i=>(i.zero,i.size,i.bytes))=some (some (.bool false),1,1):=by kernel_rfl
theorem dS:(Tryz.prog.info? 44).map (fun i=>(i.zero,i.size,i.bytes))=some (some (.slice none 0 0),1,24):=by kernel_rfl
theorem T9:(Tryz.prog.info? 62).map (fun i=>(i.zero,i.size,i.bytes))=some (some (.agg #[.string ByteArray.empty,.int .i64 0,.slice none 0 0,.slice none 0 0,.int .i64 0,.int .i64 0,.slice none 0 0,.int .i64 0,.int .i64 0,.slice none 0 0,.slice none 0 0,.slice none 0 0]),12,200):=by kernel_rfl
theorem Qc:naB Tryz.prog 161=true:=by kernel_rfl
theorem tH:naB Tryz.prog 165=true:=by kernel_rfl
theorem Zf:naB Tryz.prog 185=true:=by kernel_rfl
theorem na2:naB Tryz.prog 2=true:=by kernel_rfl
theorem pR:naB Tryz.prog 22=true:=by kernel_rfl
theorem pW:naB Tryz.prog 23=true:=by kernel_rfl
theorem zY:naB Tryz.prog 26=true:=by kernel_rfl
theorem AaW:naB Tryz.prog 29=true:=by kernel_rfl
theorem Jb:naB Tryz.prog 32=true:=by kernel_rfl
theorem AaV:naB Tryz.prog 35=true:=by kernel_rfl
theorem na4:naB Tryz.prog 4=true:=by kernel_rfl
theorem Mr:naB Tryz.prog 44=true:=by kernel_rfl
theorem Nr:naB Tryz.prog 45=true:=by kernel_rfl
theorem O1:naB Tryz.prog 51=true:=by kernel_rfl
theorem Ol:naB Tryz.prog 54=true:=by kernel_rfl
theorem Om:naB Tryz.prog 58=true:=by kernel_rfl
theorem na9:naB Tryz.prog 9=true:=by kernel_rfl
theorem bT:Tryz.prog.eqGuardType Tryz.prog.depth 142=false:=by kernel_rfl
theorem Zu:Tryz.prog.eqGuardType Tryz.prog.depth 168=false:=by kernel_rfl
theorem Sr:(Tryz.prog.info? 153).map (·.size)=some 3:=by kernel_rfl
theorem P7:(Tryz.prog.info? 161).map (·.size)=some 1:=by kernel_rfl
theorem Oz:(Tryz.prog.info? 163).map (·.size)=some 5:=by kernel_rfl
theorem uO:(Tryz.prog.info? 165).map (·.size)=some 1:=by kernel_rfl
theorem Qt:(Tryz.prog.info? 168).map (·.size)=some 2:=by kernel_rfl
theorem AaQ:(Tryz.prog.info? 179).map (·.size)=some 5:=by kernel_rfl
theorem AaK:(Tryz.prog.info? 181).map (·.size)=some 3:=by kernel_rfl
theorem sz2:(Tryz.prog.info? 2).map (·.size)=some 1:=by kernel_rfl
theorem AaZ:(Tryz.prog.info? 211).map (·.size)=some 2:=by kernel_rfl
theorem zW:(Tryz.prog.info? 22).map (·.size)=some 1:=by kernel_rfl
theorem R8:(Tryz.prog.info? 233).map (·.size)=some 2:=by kernel_rfl
theorem zP:(Tryz.prog.info? 39).map (·.size)=some 12:=by kernel_rfl
theorem sz4:(Tryz.prog.info? 4).map (·.size)=some 1:=by kernel_rfl
theorem Sm:(Tryz.prog.info? 44).map (·.size)=some 1:=by kernel_rfl
theorem Abt:(Tryz.prog.info? 45).map (·.size)=some 1:=by kernel_rfl
theorem J7:(Tryz.prog.info? 62).map (·.size)=some 12:=by kernel_rfl
theorem sz9:(Tryz.prog.info? 9).map (·.size)=some 1:=by kernel_rfl
abbrev zR:=@Tryz.underlying105
abbrev pI:=@Tryz.underlying142
abbrev Aa0:=@Tryz.underlying159
abbrev P8:=@Tryz.underlying161
abbrev sP:=@Tryz.underlying165
abbrev pK:=@Tryz.underlying172
abbrev Sw:=@Tryz.underlying185
abbrev mJ:=@Tryz.underlying194
abbrev U2:=@Tryz.underlying2
abbrev Uf:=@Tryz.underlying202
abbrev Abd:=@Tryz.underlying207
abbrev U22:=@Tryz.underlying22
abbrev Ug:=@Tryz.underlying228
abbrev U23:=@Tryz.underlying23
abbrev qE:=@Tryz.underlying244
abbrev Abm:=@Tryz.underlying249
abbrev U26:=@Tryz.underlying26
abbrev U29:=@Tryz.underlying29
abbrev U3:=@Tryz.underlying3
abbrev U32:=@Tryz.underlying32
abbrev U35:=@Tryz.underlying35
abbrev U4:=@Tryz.underlying4
abbrev U44:=@Tryz.underlying44
abbrev U45:=@Tryz.underlying45
abbrev U5:=@Tryz.underlying5
abbrev U51:=@Tryz.underlying51
abbrev U54:=@Tryz.underlying54
abbrev U58:=@Tryz.underlying58
abbrev U9:=@Tryz.underlying9
theorem uP:(Tryz.prog.info? 142).map (·.zero)=some (some (.agg #[.bool false,.bool false,.bool false,.bool false])):=by kernel_rfl
theorem uA:(Tryz.prog.info? 153).map (·.zero)=some (some (.agg #[.int .i64 0,.int .i64 0,.int .i64 0])):=by kernel_rfl
theorem Zl:(Tryz.prog.info? 163).map (·.zero)=some (some (.agg #[.int .i64 0,.int .i64 0,.int .i64 0,.int .i64 0,.int .i64 0])):=by kernel_rfl
theorem Zx:(Tryz.prog.info? 168).map (·.zero)=some (some (.agg #[.int .i64 0,.int .i64 0])):=by kernel_rfl
theorem dB:(Tryz.prog.info? 187).map (·.zero)=some (some (.agg #[.slice none 0 0,.slice none 0 0])):=by kernel_rfl
theorem zr2:(Tryz.prog.info? 2).map (·.zero)=some (some (.int .i64 0)):=by kernel_rfl
theorem iJ:(Tryz.prog.info? 228).map (·.zero)=some (some (.agg #[.int .i64 0,.int .i64 0,.int .i64 0,.int .i64 0])):=by kernel_rfl
theorem oZ:(Tryz.prog.info? 233).map (·.zero)=some (some (.agg #[.int .i64 0,.int .i64 0])):=by kernel_rfl
theorem Aax:(Tryz.prog.info? 252).map (·.zero)=some (some (.agg #[.int .u8 0,.int .u8 0,.int .u8 0,.int .u8 0,.int .u8 0,.int .u8 0,.int .u8 0,.int .u8 0,.int .u8 0,.int .u8 0,.int .u8 0,.int .u8 0,.int .u8 0,.int .u8 0,.int .u8 0,.int .u8 0,.int .u8 0,.int .u8 0,.int .u8 0,.int .u8 0,.int .u8 0,.int .u8 0,.int .u8 0,.int .u8 0])):=by kernel_rfl
theorem Rs:(Tryz.prog.info? 47).map (·.zero)=some (some (.agg #[.slice none 0 0,.slice none 0 0,.slice none 0 0])):=by kernel_rfl
theorem jC:(Tryz.prog.info? 53).map (·.zero)=some (some (.agg #[.slice none 0 0])):=by kernel_rfl
theorem qB:(Tryz.prog.info? 56).map (·.zero)=some (some (.agg #[.slice none 0 0,.int .i64 0])):=by kernel_rfl
theorem xR:(Tryz.prog.info? 57).map (·.zero)=some (some (.agg #[.int .i64 0,.slice none 0 0])):=by kernel_rfl
theorem rY:(Tryz.prog.info? 60).map (·.zero)=some (some (.agg #[.int .i64 0,.int .i64 0,.slice none 0 0,.slice none 0 0,.slice none 0 0])):=by kernel_rfl
theorem fI:(Tryz.prog.info? 62).map (·.zero)=some (some (.agg #[.string ByteArray.empty,.int .i64 0,.slice none 0 0,.slice none 0 0,.int .i64 0,.int .i64 0,.slice none 0 0,.int .i64 0,.int .i64 0,.slice none 0 0,.slice none 0 0,.slice none 0 0])):=by kernel_rfl
theorem vD:(Tryz.prog.info? 64).map (·.zero)=some (some (.agg #[.int .i64 0,.string ByteArray.empty,.string ByteArray.empty,.int .i64 0,.slice none 0 0,.slice none 0 0,.int .i64 0,.int .i64 0,.slice none 0 0,.int .i64 0,.int .i64 0,.slice none 0 0,.slice none 0 0,.slice none 0 0])):=by kernel_rfl
theorem Abi:FK Tryz.prog 4 Tryz.f4:=⟨Tryz.func4,by kernel_rfl,rfl⟩
theorem Abl:FK Tryz.prog 5 Tryz.f5:=⟨Tryz.func5,by kernel_rfl,rfl⟩
theorem Abf:FK Tryz.prog 6 Tryz.f6:=⟨Tryz.func6,by kernel_rfl,rfl⟩
theorem qJ:FK Tryz.prog 7 Tryz.f7:=⟨Tryz.func7,by kernel_rfl,rfl⟩
theorem rX:FK Tryz.prog 8 Tryz.f8:=⟨Tryz.func8,by kernel_rfl,rfl⟩
theorem Aav:FK Tryz.prog 9 Tryz.f9:=⟨Tryz.func9,by kernel_rfl,rfl⟩
theorem Xz:FK Tryz.prog 10 Tryz.f10:=⟨Tryz.func10,by kernel_rfl,rfl⟩
theorem Aa6:FK Tryz.prog 11 Tryz.f11:=⟨Tryz.func11,by kernel_rfl,rfl⟩
theorem sU:FK Tryz.prog 12 Tryz.f12:=⟨Tryz.func12,by kernel_rfl,rfl⟩
theorem AaD:FK Tryz.prog 13 Tryz.f13:=⟨Tryz.func13,by kernel_rfl,rfl⟩
theorem uC:FK Tryz.prog 14 Tryz.f14:=⟨Tryz.func14,by kernel_rfl,rfl⟩
theorem tY:FK Tryz.prog 15 Tryz.f15:=⟨Tryz.func15,by kernel_rfl,rfl⟩
theorem uG:FK Tryz.prog 16 Tryz.f16:=⟨Tryz.func16,by kernel_rfl,rfl⟩
theorem uX:FK Tryz.prog 17 Tryz.f17:=⟨Tryz.func17,by kernel_rfl,rfl⟩
theorem Ww:FK Tryz.prog 18 Tryz.f18:=⟨Tryz.func18,by kernel_rfl,rfl⟩
theorem AaL:FK Tryz.prog 19 Tryz.f19:=⟨Tryz.func19,by kernel_rfl,rfl⟩
theorem AaB:FK Tryz.prog 20 Tryz.f20:=⟨Tryz.func20,by kernel_rfl,rfl⟩
theorem AaG:FK Tryz.prog 21 Tryz.f21:=⟨Tryz.func21,by kernel_rfl,rfl⟩
theorem AaH:FK Tryz.prog 22 Tryz.f22:=⟨Tryz.func22,by kernel_rfl,rfl⟩
theorem zU:FK Tryz.prog 23 Tryz.f23:=⟨Tryz.func23,by kernel_rfl,rfl⟩
theorem tJ:FK Tryz.prog 24 Tryz.f24:=⟨Tryz.func24,by kernel_rfl,rfl⟩
theorem uR:FK Tryz.prog 25 Tryz.f25:=⟨Tryz.func25,by kernel_rfl,rfl⟩
theorem tO:FK Tryz.prog 26 Tryz.f26:=⟨Tryz.func26,by kernel_rfl,rfl⟩
theorem Y9:FK Tryz.prog 27 Tryz.f27:=⟨Tryz.func27,by kernel_rfl,rfl⟩
theorem Aay:FK Tryz.prog 28 Tryz.f28:=⟨Tryz.func28,by kernel_rfl,rfl⟩
theorem Aaf:FK Tryz.prog 29 Tryz.f29:=⟨Tryz.func29,by kernel_rfl,rfl⟩
theorem AaI:FK Tryz.prog 30 Tryz.f30:=⟨Tryz.func30,by kernel_rfl,rfl⟩
theorem uJ:FK Tryz.prog 31 Tryz.f31:=⟨Tryz.func31,by kernel_rfl,rfl⟩
theorem Aa1:FK Tryz.prog 32 Tryz.f32:=⟨Tryz.func32,by kernel_rfl,rfl⟩
theorem uM:FK Tryz.prog 33 Tryz.f33:=⟨Tryz.func33,by kernel_rfl,rfl⟩
theorem uB:FK Tryz.prog 34 Tryz.f34:=⟨Tryz.func34,by kernel_rfl,rfl⟩
theorem uZ:FK Tryz.prog 35 Tryz.f35:=⟨Tryz.func35,by kernel_rfl,rfl⟩
theorem uS:FK Tryz.prog 36 Tryz.f36:=⟨Tryz.func36,by kernel_rfl,rfl⟩
theorem tL:FK Tryz.prog 37 Tryz.f37:=⟨Tryz.func37,by kernel_rfl,rfl⟩
theorem Aas:FK Tryz.prog 38 Tryz.f38:=⟨Tryz.func38,by kernel_rfl,rfl⟩
theorem uE:FK Tryz.prog 39 Tryz.f39:=⟨Tryz.func39,by kernel_rfl,rfl⟩
theorem uD:FK Tryz.prog 40 Tryz.f40:=⟨Tryz.func40,by kernel_rfl,rfl⟩
theorem Aaz:FK Tryz.prog 41 Tryz.f41:=⟨Tryz.func41,by kernel_rfl,rfl⟩
theorem Aa9:FK Tryz.prog 42 Tryz.f42:=⟨Tryz.func42,by kernel_rfl,rfl⟩
theorem Aac:FK Tryz.prog 43 Tryz.f43:=⟨Tryz.func43,by kernel_rfl,rfl⟩
theorem Aaa:FK Tryz.prog 44 Tryz.f44:=⟨Tryz.func44,by kernel_rfl,rfl⟩
theorem gT:FK Tryz.prog 45 Tryz.f45:=⟨Tryz.func45,by kernel_rfl,rfl⟩
theorem oV:FK Tryz.prog 46 Tryz.f46:=⟨Tryz.func46,by kernel_rfl,rfl⟩
theorem cK:FK Tryz.prog 47 Tryz.f47:=⟨Tryz.func47,by kernel_rfl,rfl⟩
theorem iO:FK Tryz.prog 48 Tryz.f48:=⟨Tryz.func48,by kernel_rfl,rfl⟩
theorem uV:FK Tryz.prog 49 Tryz.f49:=⟨Tryz.func49,by kernel_rfl,rfl⟩
theorem lG:FK Tryz.prog 50 Tryz.f50:=⟨Tryz.func50,by kernel_rfl,rfl⟩
theorem iP:FK Tryz.prog 51 Tryz.f51:=⟨Tryz.func51,by kernel_rfl,rfl⟩
theorem gP:FK Tryz.prog 52 Tryz.f52:=⟨Tryz.func52,by kernel_rfl,rfl⟩
theorem dL:FK Tryz.prog 53 Tryz.f53:=⟨Tryz.func53,by kernel_rfl,rfl⟩
theorem nU:FK Tryz.prog 54 Tryz.f54:=⟨Tryz.func54,by kernel_rfl,rfl⟩
theorem Aa5:FK Tryz.prog 55 Tryz.f55:=⟨Tryz.func55,by kernel_rfl,rfl⟩
theorem Aam:FK Tryz.prog 56 Tryz.f56:=⟨Tryz.func56,by kernel_rfl,rfl⟩
theorem Aaq:FK Tryz.prog 57 Tryz.f57:=⟨Tryz.func57,by kernel_rfl,rfl⟩
theorem AaJ:FK Tryz.prog 58 Tryz.f58:=⟨Tryz.func58,by kernel_rfl,rfl⟩
theorem AaE:FK Tryz.prog 59 Tryz.f59:=⟨Tryz.func59,by kernel_rfl,rfl⟩
theorem uW:FK Tryz.prog 60 Tryz.f60:=⟨Tryz.func60,by kernel_rfl,rfl⟩
theorem zO:FK Tryz.prog 61 Tryz.f61:=⟨Tryz.func61,by kernel_rfl,rfl⟩
theorem Zt:FK Tryz.prog 62 Tryz.f62:=⟨Tryz.func62,by kernel_rfl,rfl⟩
theorem gY:FK Tryz.prog 63 Tryz.f63:=⟨Tryz.func63,by kernel_rfl,rfl⟩
theorem uF:FK Tryz.prog 64 Tryz.f64:=⟨Tryz.func64,by kernel_rfl,rfl⟩
theorem tN:FK Tryz.prog 65 Tryz.f65:=⟨Tryz.func65,by kernel_rfl,rfl⟩
theorem iI:FK Tryz.prog 66 Tryz.f66:=⟨Tryz.func66,by kernel_rfl,rfl⟩
theorem nQ:FK Tryz.prog 67 Tryz.f67:=⟨Tryz.func67,by kernel_rfl,rfl⟩
theorem AaX:FK Tryz.prog 68 Tryz.f68:=⟨Tryz.func68,by kernel_rfl,rfl⟩
theorem tX:FK Tryz.prog 69 Tryz.f69:=⟨Tryz.func69,by kernel_rfl,rfl⟩
theorem lH:FK Tryz.prog 70 Tryz.f70:=⟨Tryz.func70,by kernel_rfl,rfl⟩
theorem Aae:FK Tryz.prog 71 Tryz.f71:=⟨Tryz.func71,by kernel_rfl,rfl⟩
theorem sZ:FK Tryz.prog 72 Tryz.f72:=⟨Tryz.func72,by kernel_rfl,rfl⟩
theorem zS:FK Tryz.prog 73 Tryz.f73:=⟨Tryz.func73,by kernel_rfl,rfl⟩
theorem Aa4:FK Tryz.prog 74 Tryz.f74:=⟨Tryz.func74,by kernel_rfl,rfl⟩
theorem Aad:FK Tryz.prog 75 Tryz.f75:=⟨Tryz.func75,by kernel_rfl,rfl⟩
theorem AaC:FK Tryz.prog 76 Tryz.f76:=⟨Tryz.func76,by kernel_rfl,rfl⟩
theorem uQ:FK Tryz.prog 77 Tryz.f77:=⟨Tryz.func77,by kernel_rfl,rfl⟩
theorem uN:FK Tryz.prog 78 Tryz.f78:=⟨Tryz.func78,by kernel_rfl,rfl⟩
theorem tV:FK Tryz.prog 79 Tryz.f79:=⟨Tryz.func79,by kernel_rfl,rfl⟩
theorem Zr:FK Tryz.prog 80 Tryz.f80:=⟨Tryz.func80,by kernel_rfl,rfl⟩
theorem uL:FK Tryz.prog 81 Tryz.f81:=⟨Tryz.func81,by kernel_rfl,rfl⟩
theorem Aaj:FK Tryz.prog 82 Tryz.f82:=⟨Tryz.func82,by kernel_rfl,rfl⟩
theorem Aai:FK Tryz.prog 83 Tryz.f83:=⟨Tryz.func83,by kernel_rfl,rfl⟩
theorem Aah:FK Tryz.prog 84 Tryz.f84:=⟨Tryz.func84,by kernel_rfl,rfl⟩
theorem AaO:FK Tryz.prog 85 Tryz.f85:=⟨Tryz.func85,by kernel_rfl,rfl⟩
theorem AaU:FK Tryz.prog 86 Tryz.f86:=⟨Tryz.func86,by kernel_rfl,rfl⟩
theorem Aa2:FK Tryz.prog 87 Tryz.f87:=⟨Tryz.func87,by kernel_rfl,rfl⟩
theorem kM:FK Tryz.prog 88 Tryz.f88:=⟨Tryz.func88,by kernel_rfl,rfl⟩
theorem Abb:FK Tryz.prog 89 Tryz.f89:=⟨Tryz.func89,by kernel_rfl,rfl⟩
theorem zL:FK Tryz.prog 90 Tryz.f90:=⟨Tryz.func90,by kernel_rfl,rfl⟩
theorem AaF:FK Tryz.prog 91 Tryz.f91:=⟨Tryz.func91,by kernel_rfl,rfl⟩
theorem nS:FK Tryz.prog 92 Tryz.f92:=⟨Tryz.func92,by kernel_rfl,rfl⟩
theorem zT:FK Tryz.prog 93 Tryz.f93:=⟨Tryz.func93,by kernel_rfl,rfl⟩
theorem Q6:FK Tryz.prog 94 Tryz.f94:=⟨Tryz.func94,by kernel_rfl,rfl⟩
theorem zV:FK Tryz.prog 95 Tryz.f95:=⟨Tryz.func95,by kernel_rfl,rfl⟩
theorem Aa7:FK Tryz.prog 96 Tryz.f96:=⟨Tryz.func96,by kernel_rfl,rfl⟩
theorem Aab:FK Tryz.prog 97 Tryz.f97:=⟨Tryz.func97,by kernel_rfl,rfl⟩
theorem AaP:FK Tryz.prog 98 Tryz.f98:=⟨Tryz.func98,by kernel_rfl,rfl⟩
theorem zN:FK Tryz.prog 99 Tryz.f99:=⟨Tryz.func99,by kernel_rfl,rfl⟩
theorem X5:FK Tryz.prog 100 Tryz.f100:=⟨Tryz.func100,by kernel_rfl,rfl⟩
theorem bL:FK Tryz.prog 101 Tryz.f101:=⟨Tryz.func101,by kernel_rfl,rfl⟩
theorem fK:FK Tryz.prog 102 Tryz.f102:=⟨Tryz.func102,by kernel_rfl,rfl⟩
theorem mY:FK Tryz.prog 103 Tryz.f103:=⟨Tryz.func103,by kernel_rfl,rfl⟩
theorem vN:FK Tryz.prog 104 Tryz.f104:=⟨Tryz.func104,by kernel_rfl,rfl⟩
theorem wE:FK Tryz.prog 105 Tryz.f105:=⟨Tryz.func105,by kernel_rfl,rfl⟩
theorem wH:FK Tryz.prog 106 Tryz.f106:=⟨Tryz.func106,by kernel_rfl,rfl⟩
theorem yD:FK Tryz.prog 107 Tryz.f107:=⟨Tryz.func107,by kernel_rfl,rfl⟩
theorem eF:FK Tryz.prog 108 Tryz.f108:=⟨Tryz.func108,by kernel_rfl,rfl⟩
theorem vV:FK Tryz.prog 109 Tryz.f109:=⟨Tryz.func109,by kernel_rfl,rfl⟩
theorem wX:FK Tryz.prog 110 Tryz.f110:=⟨Tryz.func110,by kernel_rfl,rfl⟩
theorem Ox:FK Tryz.prog 111 Tryz.f111:=⟨Tryz.func111,by kernel_rfl,rfl⟩
theorem oM:FK Tryz.prog 112 Tryz.f112:=⟨Tryz.func112,by kernel_rfl,rfl⟩
theorem Z7:FK Tryz.prog 113 Tryz.f113:=⟨Tryz.func113,by kernel_rfl,rfl⟩
theorem bH:FK Tryz.prog 114 Tryz.f114:=⟨Tryz.func114,by kernel_rfl,rfl⟩
theorem bE:FK Tryz.prog 115 Tryz.f115:=⟨Tryz.func115,by kernel_rfl,rfl⟩
theorem bJ:FK Tryz.prog 116 Tryz.f116:=⟨Tryz.func116,by kernel_rfl,rfl⟩
theorem vI:FK Tryz.prog 117 Tryz.f117:=⟨Tryz.func117,by kernel_rfl,rfl⟩
theorem oK:FK Tryz.prog 118 Tryz.f118:=⟨Tryz.func118,by kernel_rfl,rfl⟩
theorem wW:FK Tryz.prog 119 Tryz.f119:=⟨Tryz.func119,by kernel_rfl,rfl⟩
theorem aO:FK Tryz.prog 120 Tryz.f120:=⟨Tryz.func120,by kernel_rfl,rfl⟩
theorem yG:FK Tryz.prog 121 Tryz.f121:=⟨Tryz.func121,by kernel_rfl,rfl⟩
theorem yL:FK Tryz.prog 122 Tryz.f122:=⟨Tryz.func122,by kernel_rfl,rfl⟩
theorem zI:FK Tryz.prog 123 Tryz.f123:=⟨Tryz.func123,by kernel_rfl,rfl⟩
theorem fP:FK Tryz.prog 124 Tryz.f124:=⟨Tryz.func124,by kernel_rfl,rfl⟩
theorem yV:FK Tryz.prog 125 Tryz.f125:=⟨Tryz.func125,by kernel_rfl,rfl⟩
theorem kQ:FK Tryz.prog 128 Tryz.f128:=⟨Tryz.func128,by kernel_rfl,rfl⟩
theorem vE:FK Tryz.prog 129 Tryz.f129:=⟨Tryz.func129,by kernel_rfl,rfl⟩
theorem yC:FK Tryz.prog 130 Tryz.f130:=⟨Tryz.func130,by kernel_rfl,rfl⟩
theorem fF:FK Tryz.prog 131 Tryz.f131:=⟨Tryz.func131,by kernel_rfl,rfl⟩
theorem wN:FK Tryz.prog 132 Tryz.f132:=⟨Tryz.func132,by kernel_rfl,rfl⟩
theorem zD:FK Tryz.prog 133 Tryz.f133:=⟨Tryz.func133,by kernel_rfl,rfl⟩
theorem vY:FK Tryz.prog 134 Tryz.f134:=⟨Tryz.func134,by kernel_rfl,rfl⟩
theorem vQ:FK Tryz.prog 135 Tryz.f135:=⟨Tryz.func135,by kernel_rfl,rfl⟩
theorem Z9:FK Tryz.prog 136 Tryz.f136:=⟨Tryz.func136,by kernel_rfl,rfl⟩
theorem Wy:FK Tryz.prog 137 Tryz.f137:=⟨Tryz.func137,by kernel_rfl,rfl⟩
theorem lK:FK Tryz.prog 138 Tryz.f138:=⟨Tryz.func138,by kernel_rfl,rfl⟩
theorem wP:FK Tryz.prog 139 Tryz.f139:=⟨Tryz.func139,by kernel_rfl,rfl⟩
theorem wU:FK Tryz.prog 140 Tryz.f140:=⟨Tryz.func140,by kernel_rfl,rfl⟩
theorem zA:FK Tryz.prog 141 Tryz.f141:=⟨Tryz.func141,by kernel_rfl,rfl⟩
theorem xJ:FK Tryz.prog 142 Tryz.f142:=⟨Tryz.func142,by kernel_rfl,rfl⟩
theorem yN:FK Tryz.prog 143 Tryz.f143:=⟨Tryz.func143,by kernel_rfl,rfl⟩
theorem yI:FK Tryz.prog 144 Tryz.f144:=⟨Tryz.func144,by kernel_rfl,rfl⟩
theorem Xv:FK Tryz.prog 145 Tryz.f145:=⟨Tryz.func145,by kernel_rfl,rfl⟩
theorem xZ:FK Tryz.prog 146 Tryz.f146:=⟨Tryz.func146,by kernel_rfl,rfl⟩
theorem yP:FK Tryz.prog 147 Tryz.f147:=⟨Tryz.func147,by kernel_rfl,rfl⟩
theorem wO:FK Tryz.prog 148 Tryz.f148:=⟨Tryz.func148,by kernel_rfl,rfl⟩
theorem yH:FK Tryz.prog 149 Tryz.f149:=⟨Tryz.func149,by kernel_rfl,rfl⟩
theorem xG:FK Tryz.prog 150 Tryz.f150:=⟨Tryz.func150,by kernel_rfl,rfl⟩
theorem oP:FK Tryz.prog 151 Tryz.f151:=⟨Tryz.func151,by kernel_rfl,rfl⟩
theorem lF:FK Tryz.prog 152 Tryz.f152:=⟨Tryz.func152,by kernel_rfl,rfl⟩
theorem vT:FK Tryz.prog 153 Tryz.f153:=⟨Tryz.func153,by kernel_rfl,rfl⟩
theorem xC:FK Tryz.prog 154 Tryz.f154:=⟨Tryz.func154,by kernel_rfl,rfl⟩
theorem aU:FK Tryz.prog 155 Tryz.f155:=⟨Tryz.func155,by kernel_rfl,rfl⟩
theorem mK:FK Tryz.prog 156 Tryz.f156:=⟨Tryz.func156,by kernel_rfl,rfl⟩
theorem vG:FK Tryz.prog 157 Tryz.f157:=⟨Tryz.func157,by kernel_rfl,rfl⟩
theorem nN:FK Tryz.prog 158 Tryz.f158:=⟨Tryz.func158,by kernel_rfl,rfl⟩
theorem Wu:FK Tryz.prog 159 Tryz.f159:=⟨Tryz.func159,by kernel_rfl,rfl⟩
theorem nK:FK Tryz.prog 160 Tryz.f160:=⟨Tryz.func160,by kernel_rfl,rfl⟩
theorem zC:FK Tryz.prog 161 Tryz.f161:=⟨Tryz.func161,by kernel_rfl,rfl⟩
theorem kV:FK Tryz.prog 162 Tryz.f162:=⟨Tryz.func162,by kernel_rfl,rfl⟩
theorem nM:FK Tryz.prog 163 Tryz.f163:=⟨Tryz.func163,by kernel_rfl,rfl⟩
theorem oU:FK Tryz.prog 164 Tryz.f164:=⟨Tryz.func164,by kernel_rfl,rfl⟩
theorem vM:FK Tryz.prog 165 Tryz.f165:=⟨Tryz.func165,by kernel_rfl,rfl⟩
theorem xH:FK Tryz.prog 166 Tryz.f166:=⟨Tryz.func166,by kernel_rfl,rfl⟩
theorem wQ:FK Tryz.prog 167 Tryz.f167:=⟨Tryz.func167,by kernel_rfl,rfl⟩
theorem wJ:FK Tryz.prog 168 Tryz.f168:=⟨Tryz.func168,by kernel_rfl,rfl⟩
theorem xK:FK Tryz.prog 170 Tryz.f170:=⟨Tryz.func170,by kernel_rfl,rfl⟩
theorem wL:FK Tryz.prog 171 Tryz.f171:=⟨Tryz.func171,by kernel_rfl,rfl⟩
theorem xW:FK Tryz.prog 172 Tryz.f172:=⟨Tryz.func172,by kernel_rfl,rfl⟩
theorem nX:FK Tryz.prog 173 Tryz.f173:=⟨Tryz.func173,by kernel_rfl,rfl⟩
theorem xQ:FK Tryz.prog 174 Tryz.f174:=⟨Tryz.func174,by kernel_rfl,rfl⟩
theorem aC:FK Tryz.prog 175 Tryz.f175:=⟨Tryz.func175,by kernel_rfl,rfl⟩
theorem gL:FK Tryz.prog 176 Tryz.f176:=⟨Tryz.func176,by kernel_rfl,rfl⟩
theorem vZ:FK Tryz.prog 177 Tryz.f177:=⟨Tryz.func177,by kernel_rfl,rfl⟩
theorem xY:FK Tryz.prog 178 Tryz.f178:=⟨Tryz.func178,by kernel_rfl,rfl⟩
theorem aD:FK Tryz.prog 179 Tryz.f179:=⟨Tryz.func179,by kernel_rfl,rfl⟩
theorem xP:FK Tryz.prog 180 Tryz.f180:=⟨Tryz.func180,by kernel_rfl,rfl⟩
theorem kS:FK Tryz.prog 181 Tryz.f181:=⟨Tryz.func181,by kernel_rfl,rfl⟩
theorem xE:FK Tryz.prog 182 Tryz.f182:=⟨Tryz.func182,by kernel_rfl,rfl⟩
theorem yU:FK Tryz.prog 183 Tryz.f183:=⟨Tryz.func183,by kernel_rfl,rfl⟩
theorem nE:FK Tryz.prog 184 Tryz.f184:=⟨Tryz.func184,by kernel_rfl,rfl⟩
theorem vR:FK Tryz.prog 185 Tryz.f185:=⟨Tryz.func185,by kernel_rfl,rfl⟩
theorem fC:FK Tryz.prog 186 Tryz.f186:=⟨Tryz.func186,by kernel_rfl,rfl⟩
theorem lJ:FK Tryz.prog 187 Tryz.f187:=⟨Tryz.func187,by kernel_rfl,rfl⟩
theorem wS:FK Tryz.prog 188 Tryz.f188:=⟨Tryz.func188,by kernel_rfl,rfl⟩
theorem kW:FK Tryz.prog 189 Tryz.f189:=⟨Tryz.func189,by kernel_rfl,rfl⟩
theorem zB:FK Tryz.prog 190 Tryz.f190:=⟨Tryz.func190,by kernel_rfl,rfl⟩
theorem xM:FK Tryz.prog 191 Tryz.f191:=⟨Tryz.func191,by kernel_rfl,rfl⟩
theorem yE:FK Tryz.prog 192 Tryz.f192:=⟨Tryz.func192,by kernel_rfl,rfl⟩
theorem vC:FK Tryz.prog 193 Tryz.f193:=⟨Tryz.func193,by kernel_rfl,rfl⟩
theorem xN:FK Tryz.prog 194 Tryz.f194:=⟨Tryz.func194,by kernel_rfl,rfl⟩
theorem eY:FK Tryz.prog 195 Tryz.f195:=⟨Tryz.func195,by kernel_rfl,rfl⟩
theorem yF:FK Tryz.prog 196 Tryz.f196:=⟨Tryz.func196,by kernel_rfl,rfl⟩
theorem vO:FK Tryz.prog 197 Tryz.f197:=⟨Tryz.func197,by kernel_rfl,rfl⟩
theorem mI:FK Tryz.prog 198 Tryz.f198:=⟨Tryz.func198,by kernel_rfl,rfl⟩
theorem vJ:FK Tryz.prog 199 Tryz.f199:=⟨Tryz.func199,by kernel_rfl,rfl⟩
theorem wT:FK Tryz.prog 202 Tryz.f202:=⟨Tryz.func202,by kernel_rfl,rfl⟩
theorem gD:FK Tryz.prog 203 Tryz.f203:=⟨Tryz.func203,by kernel_rfl,rfl⟩
theorem lQ:FK Tryz.prog 204 Tryz.f204:=⟨Tryz.func204,by kernel_rfl,rfl⟩
theorem yT:FK Tryz.prog 205 Tryz.f205:=⟨Tryz.func205,by kernel_rfl,rfl⟩
theorem yX:FK Tryz.prog 206 Tryz.f206:=⟨Tryz.func206,by kernel_rfl,rfl⟩
theorem nP:FK Tryz.prog 207 Tryz.f207:=⟨Tryz.func207,by kernel_rfl,rfl⟩
theorem lD:FK Tryz.prog 208 Tryz.f208:=⟨Tryz.func208,by kernel_rfl,rfl⟩
theorem oW:FK Tryz.prog 209 Tryz.f209:=⟨Tryz.func209,by kernel_rfl,rfl⟩
theorem aN:FK Tryz.prog 210 Tryz.f210:=⟨Tryz.func210,by kernel_rfl,rfl⟩
theorem xU:FK Tryz.prog 211 Tryz.f211:=⟨Tryz.func211,by kernel_rfl,rfl⟩
theorem yR:FK Tryz.prog 212 Tryz.f212:=⟨Tryz.func212,by kernel_rfl,rfl⟩
theorem wG:FK Tryz.prog 213 Tryz.f213:=⟨Tryz.func213,by kernel_rfl,rfl⟩
theorem vP:FK Tryz.prog 214 Tryz.f214:=⟨Tryz.func214,by kernel_rfl,rfl⟩
theorem yK:FK Tryz.prog 215 Tryz.f215:=⟨Tryz.func215,by kernel_rfl,rfl⟩
theorem xD:FK Tryz.prog 216 Tryz.f216:=⟨Tryz.func216,by kernel_rfl,rfl⟩
theorem aF:FK Tryz.prog 217 Tryz.f217:=⟨Tryz.func217,by kernel_rfl,rfl⟩
theorem xB:FK Tryz.prog 218 Tryz.f218:=⟨Tryz.func218,by kernel_rfl,rfl⟩
theorem wM:FK Tryz.prog 219 Tryz.f219:=⟨Tryz.func219,by kernel_rfl,rfl⟩
theorem xS:FK Tryz.prog 220 Tryz.f220:=⟨Tryz.func220,by kernel_rfl,rfl⟩
theorem wY:FK Tryz.prog 221 Tryz.f221:=⟨Tryz.func221,by kernel_rfl,rfl⟩
theorem wB:FK Tryz.prog 223 Tryz.f223:=⟨Tryz.func223,by kernel_rfl,rfl⟩
theorem vX:FK Tryz.prog 224 Tryz.f224:=⟨Tryz.func224,by kernel_rfl,rfl⟩
theorem mixed:Tryz.prog.follows .mixedOrders=true:=by kernel_rfl
end Go.Proofs.YtjopfecenllmgaaGreatDoor
