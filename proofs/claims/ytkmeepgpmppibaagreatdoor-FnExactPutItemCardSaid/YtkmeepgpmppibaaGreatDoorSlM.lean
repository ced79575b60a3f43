/-
  Strings: joined, compared, cut, indexed, walked through by runes; arrays of four Bools compared.
-/
import Derived.Test.YtkmeepgpmppibaaGreatDoorSlL
import Derived.Laws.StructEq
import Derived.ChangeKeysEq
import Derived.Laws.BytesArg
set_option linter.unusedVariables false
set_option linter.unusedSimpArgs false
namespace Go.Proofs.YtkmeepgpmppibaaGreatDoor
open Go.RowKit
def seq (a b : ByteArray) : Bool := a.toList == b.toList
def slt (a b : ByteArray) : Bool := Op.bytesLess a.toList b.toList
def Xk (s : ByteArray) (i : Nat) : Int := ((s.data.toList.getD i 0).toNat : Int)
section
variable {P : Program} {N : Nat} {e : Env} {w0 w : World} {L : List Cu} {Q : Act → World → Prop} {ops : Array Oper} {i d : Nat} {rest : List Nat} {ty : TypeId} {ps : String} {af : Array Edge} {t t' : TypeId} {x y z : Operand} {a b : ByteArray}
theorem GO.vP (ho : ops[i]? = some ⟨some d, .binOp .eql t x y t', ty, ps, af, none⟩) (hx : ev e x = some (.string a)) (hy : ev e y = some (.string b)) (hN : Nat.blt d N = true) (g : GO P N ops rest ((d, .bool (seq a b)) :: e) w Q) : GO P N ops (i :: rest) e w Q :=
  GO.val _ ho rfl rfl hN (fun a hs => by simp [execOp, hs.ev hx, hs.ev hy, eqGuard, binOp, Op.stringOp, seq]) g
theorem GO.wF (ho : ops[i]? = some ⟨some d, .binOp .neq t x y t', ty, ps, af, none⟩) (hx : ev e x = some (.string a)) (hy : ev e y = some (.string b)) (hN : Nat.blt d N = true) (g : GO P N ops rest ((d, .bool (!(seq a b))) :: e) w Q) : GO P N ops (i :: rest) e w Q :=
  GO.val _ ho rfl rfl hN (fun a hs => by simp [execOp, hs.ev hx, hs.ev hy, eqGuard, binOp, Op.stringOp, seq]) g
theorem GO.wC (ho : ops[i]? = some ⟨some d, .binOp .geq t x y t', ty, ps, af, none⟩) (hx : ev e x = some (.string a)) (hy : ev e y = some (.string b)) (hN : Nat.blt d N = true) (g : GO P N ops rest ((d, .bool (!(slt a b))) :: e) w Q) : GO P N ops (i :: rest) e w Q :=
  GO.val _ ho rfl rfl hN (fun a hs => by simp [execOp, hs.ev hx, hs.ev hy, eqGuard, binOp, Op.stringOp, slt]) g
theorem GO.Xm (ho : ops[i]? = some ⟨some d, .binOp .add t x y t', ty, ps, af, none⟩) (hx : ev e x = some (.string a)) (hy : ev e y = some (.string b)) (hs : a.size + b.size ≤ 9223372036854775807) (hN : Nat.blt d N = true) (g : GO P N ops rest ((d, .string (a ++ b)) :: e) w Q) : GO P N ops (i :: rest) e w Q :=
  GO.val _ ho rfl rfl hN (fun a' hs' => by
    have hm : IntKind.i64.max = 9223372036854775807 := by decide
    have h : ¬ (9223372036854775807 < (a.size : Int) + (b.size : Int)) := by omega
    simp [execOp, hs'.ev hx, hs'.ev hy, eqGuard, binOp, Op.stringOp, hm, h]
    try omega) g
theorem GO.P6 (ho : ops[i]? = some ⟨some d, .call { callee := .builtin .len, args := #[x], argTypes := #[t] }, ty, ps, af, none⟩) (hx : ev e x = some (.string a)) (ht : P.underlying t = some .string) (hN : Nat.blt d N = true) (g : GO P N ops rest ((d, .int .i64 (a.size : Int)) :: e) w Q) : GO P N ops (i :: rest) e w Q :=
  GO.val _ ho rfl rfl hN (fun a hs => by simp [execOp, resolve, invoke, builtin, Builtin.len_, hs.ev hx, run_underlying ht, goInt]) g
theorem GO.ixS {kd : IntKind} {m : Int} (ho : ops[i]? = some ⟨some d, .index t x y, ty, ps, af, none⟩) (hx : ev e x = some (.string a)) (hy : ev e y = some (.int kd m)) (ht : P.underlying t = some .string) (h0 : 0 ≤ m) (h1 : m < (a.size : Int)) (hN : Nat.blt d N = true) (g : GO P N ops rest ((d, .int .u8 (Xk a m.toNat)) :: e) w Q) : GO P N ops (i :: rest) e w Q :=
  GO.val _ ho rfl rfl hN (fun a' hs => by
    have hm : m.toNat < a.size := by omega
    have hb : a[m.toNat]? = some a[m.toNat] := getElem?_pos a m.toNat hm
    have hv : Xk a m.toNat = (a[m.toNat].toNat : Int) := by
      unfold Xk
      rw [List.getD_eq_getElem?_getD, Array.getElem?_toList, getElem?_pos a.data m.toNat hm]
      rfl
    rw [hv]
    simp [execOp, hs.ev hx, hs.ev hy, Instr.index, asIntOf, run_underlying ht, h0, hb]) g
theorem GO.nX {kl kh : IntKind} {l h : Int} (ho : ops[i]? = some ⟨some d, .slice t x (some y) (some z) none, ty, ps, af, none⟩) (hx : ev e x = some (.string a)) (hy : ev e y = some (.int kl l)) (hz : ev e z = some (.int kh h)) (ht : P.underlying t = some .string) (h0 : 0 ≤ l ∧ l ≤ h) (h1 : 0 ≤ h ∧ h ≤ (a.size : Int)) (hN : Nat.blt d N = true) (g : GO P N ops rest ((d, .string (a.extract l.toNat h.toNat)) :: e) w Q) : GO P N ops (i :: rest) e w Q :=
  GO.val _ ho rfl rfl hN (fun a' hs => by
    have h2 : l ≤ (h.toNat : Int) := by omega
    have h3 : ¬ max h 0 < l := by omega
    simp [execOp, Instr.sliceAt, Instr.slice, Instr.sliceBounds, Instr.sliceBound, asIntOf, hs.ev hx, hs.ev hy, hs.ev hz, run_underlying ht, h1.1, h1.2, h0.1, h2, h3]) g
theorem U9 {r pos : Nat} {s : ByteArray} (h : w.heap[r]? = some (.stringIter s pos)) : (getObj r).run P w = .ok (.stringIter s pos) w := by simp [getObj, Sem.run, h]
theorem aM {r pos : Nat} {s : ByteArray} (o : Obj) (h : w.heap[r]? = some (.stringIter s pos)) : (setObj r o).run P w = .ok () { w with heap := w.heap.setIfInBounds r o } := by simp [setObj, Sem.run, h]
def Iter (b : Nat) (s : ByteArray) (pos : Nat) : Cu where
  P := fun w q => q b ∧ w.heap[b]? = some (.stringIter s pos)
  loc := fun h hk => ⟨h.1, (hk b h.1).trans h.2⟩
  more := fun h hq => ⟨hq b h.1, h.2⟩
theorem GO.wD {s : ByteArray} (HS : St w0 w L) (ho : ops[i]? = some ⟨some d, .range t x, ty, ps, af, none⟩) (hx : ev e x = some (.string s)) (ht : P.underlying t = some .string) (hN : Nat.blt d N = true) (g : ∀ b w', St w0 w' (Iter b s 0 :: L) → GO P N ops rest ((d, .pointer (some ⟨b, 0, none⟩)) :: e) w' Q) : GO P N ops (i :: rest) e w Q :=
  GO.val (w' := w.alloc (.stringIter s 0)) _ ho rfl rfl hN (fun a hs => by simp [execOp, Instr.range, hs.ev hx, run_underlying ht]) (g _ _ (HS.cons (by simp) rfl rfl rfl (fun k hk => Below.heap_alloc w _ k hk) ⟨by simp, heap_alloc_new w _⟩))
theorem GO.wX {s : ByteArray} {b pos j : Nat} (HS : St w0 w L) (hj : L[j]? = some (Iter b s pos)) (ho : ops[i]? = some ⟨some d, .next x true, ty, ps, af, none⟩) (hx : ev e x = some (.pointer (some ⟨b, 0, none⟩))) (hp : pos < s.size) (hN : Nat.blt d N = true)
    (g : ∀ w', St w0 w' (L.set j (Iter b s (pos + (Utf8.decode s pos).2))) → GO P N ops rest ((d, .tuple #[.bool true, .int .i64 (pos : Int), .int .i32 ((Utf8.decode s pos).1 : Int)]) :: e) w' Q) : GO P N ops (i :: rest) e w Q := by
  obtain ⟨q, hq, h1, h2⟩ := HS.get hj
  refine GO.val (w' := { w with heap := w.heap.setIfInBounds b (.stringIter s (pos + (Utf8.decode s pos).2)) }) _ ho rfl rfl hN (fun a hs => by simp [execOp, Instr.next, hs.ev hx, U9 h2, aM _ h2, hp, goInt]) (g _ ?_)
  refine HS.upd hj (by simp) rfl rfl rfl (fun q hq => ⟨q, fun k hk => .inl hk, ⟨hq.1, ?_⟩, fun k hk hn => ?_⟩)
  · have := (Array.getElem?_eq_some_iff.1 hq.2).1
    simp [this]
  · have : b ≠ k := fun e => hn (by rw [← e]; exact hq.1)
    simp [Array.getElem?_setIfInBounds_ne this]
theorem GO.yA {s : ByteArray} {b pos j : Nat} (HS : St w0 w L) (hj : L[j]? = some (Iter b s pos)) (ho : ops[i]? = some ⟨some d, .next x true, ty, ps, af, none⟩) (hx : ev e x = some (.pointer (some ⟨b, 0, none⟩))) (hp : ¬ pos < s.size) (hN : Nat.blt d N = true)
    (g : GO P N ops rest ((d, .tuple #[.bool false]) :: e) w Q) : GO P N ops (i :: rest) e w Q := by
  obtain ⟨q, hq, h1, h2⟩ := HS.get hj
  exact GO.val _ ho rfl rfl hN (fun a hs => by simp [execOp, Instr.next, hs.ev hx, U9 h2, hp]) g
theorem X3 {k : IntKind} {u v : Int} (ht : P.underlying t = some (.int k)) (dp : Nat) (w : World) : (Op.equalIn (dp + 1) t (.int k u) (.int k v)).run P w = .ok (u == v) w := by simp [Op.equalIn, run_underlying ht]
theorem qM {f0 f1 : Field} {a0 a1 b0 b1 : Int} (hu : P.underlying t = some (.struct #[f0, f1])) (hs : P.stoodInHeld t = false) (hn : (f0.name ≠ "_" ∧ f1.name ≠ "_") ∧ f0.offset = 0 ∧ f1.offset = 1) (t0 : P.underlying f0.type = some (.int .i64)) (t1 : P.underlying f1.type = some (.int .i64)) (n0 : naB P f0.type = true) (n1 : naB P f1.type = true) :
    (Op.equal t (.agg [.int .i64 a0, .int .i64 a1].toArray) (.agg [.int .i64 b0, .int .i64 b1].toArray)).run P w = .ok (decide ((a0, a1) = (b0, b1))) w := by
  show (Op.equalIn (9999 + 1) t _ _).run P w = _
  have hf : P.fieldsOf t = #[f0, f1] := by simp [Program.fieldsOf, hu]
  rw [run_equalIn_struct w 9999 t _ _ (by rw [hf]; exact hu) hs, hf]
  have e : (9999 : Nat) = 9998 + 1 := rfl
  rw [e]
  by_cases h0 : a0 = b0 <;> by_cases h1 : a1 = b1 <;> simp [Op.eqFields, part, h0, h1, hn.1.1, hn.1.2, hn.2.1, hn.2.2, O8 n0, O8 n1, X3 t0, X3 t1]
theorem rR {el : TypeId} {inf : TypeInfo} {a0 a1 a2 a3 b0 b1 b2 b3 : Bool} (hu : P.underlying t = some (.array 4 el)) (hi : P.info? el = some inf) (hC : P.cellsOf el = 1) (te : P.underlying el = some .bool) (ne : naB P el = true) :
    (Op.equal t (.agg [.bool a0, .bool a1, .bool a2, .bool a3].toArray) (.agg [.bool b0, .bool b1, .bool b2, .bool b3].toArray)).run P w = .ok (decide ((a0, a1, a2, a3) = (b0, b1, b2, b3))) w := by
  show (Op.equalIn (9999 + 1) t _ _).run P w = _
  rw [run_equalIn_array (w := w) 9999 _ _ hu hi, hC]
  have e : (9999 : Nat) = 9998 + 1 := rfl
  rw [e]
  by_cases h0 : a0 = b0 <;> by_cases h1 : a1 = b1 <;> by_cases h2 : a2 = b2 <;> by_cases h3 : a3 = b3 <;> simp [Op.eqItems, List.range_succ, part, h0, h1, h2, h3, O8 ne, run_equalIn_bool te]
theorem GO.aZ {el : TypeId} {A : Option Addr} {c : Nat} {ly : Nat → (Bq .u8).Lay} {xs : List Int} (HS : St w0 w L) (hr : Aq w0 L (Bq .u8) A c ly xs) (ho : ops[i]? = some ⟨some d, .convert t t' x, ty, ps, af, none⟩) (hx : ev e x = some (.slice A xs.length c)) (ht : P.underlying t = some (.slice el)) (he : P.underlying el = some (.int .u8)) (ht' : P.underlying t' = some .string) (hN : Nat.blt d N = true)
    (g : GO P N ops rest ((d, .string (strOfNums xs)) :: e) w Q) : GO P N ops (i :: rest) e w Q :=
  GO.val _ ho rfl rfl hN (fun a hs => by
    have hR := hr w HS
    have hrun : (convert t t' (.slice A xs.length c)).run P w = .ok (.string (strOfNums xs)) w := by
      rcases Nat.eq_zero_or_pos xs.length with h0 | h0
      · have hnil := List.eq_nil_of_length_eq_zero h0
        subst hnil
        cases A with
        | none => exact run_convert_bytes_nil w t el ht he _ _ _ ht'
        | some a =>
          rw [run_convert_bytes_string w t t' el _ _ c ht he ht', run_bytesToString w a _ c [] (by simpa using run_loadCells_list (P := P) w a [] (fun j v h => by simp at h))]
          rfl
      · obtain ⟨b, o, rfl⟩ := hR.2.2.1 h0
        exact run_convert_bytes_arg w t el ht he b o xs.length c xs rfl (fun i hi => by
          have h1 := hR.cell (i := i) (j := 0) (x := xs[i]) (u := .int .u8 xs[i]) (List.getElem?_eq_getElem hi) (by decide) rfl
          rw [Qi, Gt] at h1
          simp only [Nat.mul_one, Nat.add_zero] at h1
          rw [h1, List.getD_eq_getElem?_getD, List.getElem?_eq_getElem hi]
          rfl) _ ht'
    simp [execOp, hs.ev hx, hrun]) g
theorem GO.wM {vs us : List Value} {r : Bool} (ho : ops[i]? = some ⟨some d, .binOp .eql t x y t', ty, ps, af, none⟩) (hx : ev e x = some (.agg vs.toArray)) (hy : ev e y = some (.agg us.toArray)) (hg : P.eqGuardType P.depth t = false) (hr : ∀ w, (Op.equal t (.agg vs.toArray) (.agg us.toArray)).run P w = .ok r w) (hN : Nat.blt d N = true) (g : GO P N ops rest ((d, .bool r) :: e) w Q) : GO P N ops (i :: rest) e w Q :=
  GO.val _ ho rfl rfl hN (fun a hs => by
    have h1 := hr w
    simp [execOp, hs.ev hx, hs.ev hy, eqGuard, binOp, Sem.program, hg, h1]) g
theorem GO.bT {vs us : List Value} {r : Bool} (ho : ops[i]? = some ⟨some d, .binOp .neq t x y t', ty, ps, af, none⟩) (hx : ev e x = some (.agg vs.toArray)) (hy : ev e y = some (.agg us.toArray)) (hg : P.eqGuardType P.depth t = false) (hr : ∀ w, (Op.equal t (.agg vs.toArray) (.agg us.toArray)).run P w = .ok r w) (hN : Nat.blt d N = true) (g : GO P N ops rest ((d, .bool (!r)) :: e) w Q) : GO P N ops (i :: rest) e w Q :=
  GO.val _ ho rfl rfl hN (fun a hs => by
    have h1 := hr w
    simp [execOp, hs.ev hx, hs.ev hy, eqGuard, binOp, Sem.program, hg, h1]) g
theorem Aq.take {α : Type} {T : Ty α} {w0 : World} {L : List Cu} {A : Option Addr} {c h : Nat} {ly : Nat → T.Lay} {xs : List α} (hr : Aq w0 L T A c ly xs) (hh : h ≤ xs.length) : Aq w0 L T A c ly (xs.take h) := fun w hs => by
  have h0 := hr w hs
  have hl : (xs.take h).length = h := by rw [List.length_take]; omega
  refine ⟨by rw [hl]; exact Nat.le_trans hh h0.1, h0.2.1, fun hp => h0.2.2.1 (by omega), fun j u hu => h0.2.2.2.1 j u ?_, fun i x hx => h0.2.2.2.2 i x ?_⟩
  · have : rc T ly 0 xs = rc T ly 0 (xs.take h) ++ rc T ly (0 + (xs.take h).length) (xs.drop h) := by rw [← G7, List.take_append_drop]
    rw [this]
    exact List.getElem?_append_left (List.getElem?_eq_some_iff.1 hu).1 ▸ hu
  · rw [List.getElem?_take] at hx
    split at hx
    · exact hx
    · cases hx
theorem GO.vR {el : TypeId} {b n sz m : Nat} {kh : IntKind} {h : Int} (ho : ops[i]? = some ⟨some d, .slice t x none (some z) none, ty, ps, af, none⟩) (hx : ev e x = some (.pointer (some ⟨b, 0, none⟩))) (hz : ev e z = some (.int kh h)) (ht : P.underlying t = some (.array n el)) (hsz : (P.info? el).map (·.size) = some sz) (h1 : 0 ≤ h ∧ h ≤ (n : Int)) (hm : h.toNat = m)
    (hN : Nat.blt d N = true) (g : GO P N ops rest ((d, .slice (some ⟨b, 0, none⟩) m n) :: e) w Q) : GO P N ops (i :: rest) e w Q :=
  GO.val _ ho rfl rfl hN (fun a hs => by
    obtain ⟨inf, hi, hi2⟩ := Option.map_eq_some_iff.1 hsz
    have eh : (h.toNat : Int) = h := Int.toNat_of_nonneg h1.1
    simp [execOp, hs.ev hx, hs.ev hz, Instr.sliceAt, Instr.sureAddr, Instr.sliceBounds, run_sliceBound, run_underlying ht, sizeOf, typeInfo, hi, h1.1, h1.2, hm, Addr.add]) g
theorem rJ {α : Type} {xs : List α} {h : Nat} (hh : h ≤ xs.length) : h = (xs.take h).length := by rw [List.length_take]; omega
theorem vV {α : Type} {xs ys : List α} {h : Nat} (e : ys.length = xs.length) : ((xs.take h).drop 0).length = ((ys.take h).drop 0).length := by rw [List.drop_zero, List.drop_zero, List.length_take, List.length_take, e]
section
variable {α : Type} {T : Ty α} {A : Option Addr} {c : Nat} {ly : Nat → T.Lay} {xs : List α} {t el : TypeId} {kl kh km : IntKind} {l h m : Int}
theorem pG {inf : TypeInfo} {n1 : Nat} (ht : P.underlying t = some (.slice el)) (hi : P.info? el = some inf) (h0 : 0 ≤ l) (h1 : l ≤ h) (hc : h ≤ (c : Int)) :
    (Instr.sliceAt t (.slice A n1 c) (some (.int kl l)) (some (.int kh h)) none).run P w = .ok (.slice (Jz A l.toNat c inf.size) (h.toNat - l.toNat) (c - l.toNat)) w := by
  have eh : (h.toNat : Int) = h := Int.toNat_of_nonneg (by omega)
  have he : P.elem t = el := by simp [Program.elem, ht]
  have ht' : P.underlying t = some (.slice (P.elem t)) := by rw [he]; exact ht
  have hs : (sizeOf (P.elem t)).run P w = .ok inf.size w := by rw [he]; simp [sizeOf, typeInfo, hi]
  have h4 : 0 ≤ h := by omega
  have hN : l.toNat ≤ h.toNat ∧ h.toNat ≤ c := by omega
  rw [run_sliceAt_slice (h := ht')]
  simp [Instr.slice, run_underlying ht', Instr.sliceBounds, run_sliceBound, hs, Jz, h0, h1, h4, hc, eh, hN]
theorem rM {inf : TypeInfo} {n1 : Nat} (ht : P.underlying t = some (.slice el)) (hi : P.info? el = some inf) (h0 : 0 ≤ l) (h1 : l ≤ h) (h2 : h ≤ m) (hc : m ≤ (c : Int)) :
    (Instr.sliceAt t (.slice A n1 c) (some (.int kl l)) (some (.int kh h)) (some (.int km m))).run P w = .ok (.slice (Jz A l.toNat m.toNat inf.size) (h.toNat - l.toNat) (m.toNat - l.toNat)) w := by
  have eh : (h.toNat : Int) = h := Int.toNat_of_nonneg (by omega)
  have em : (m.toNat : Int) = m := Int.toNat_of_nonneg (by omega)
  have he : P.elem t = el := by simp [Program.elem, ht]
  have ht' : P.underlying t = some (.slice (P.elem t)) := by rw [he]; exact ht
  have hs : (sizeOf (P.elem t)).run P w = .ok inf.size w := by rw [he]; simp [sizeOf, typeInfo, hi]
  have h4 : 0 ≤ h := by omega
  have h5 : 0 ≤ m := by omega
  rw [run_sliceAt_slice (h := ht')]
  simp [Instr.slice, run_underlying ht', Instr.sliceBounds, run_sliceBound, hs, Jz, h0, h1, h2, h4, h5, hc, eh, em]
theorem GO.slM {z2 : Operand} {n1 : Nat} (ho : ops[i]? = some ⟨some d, .slice t x (some y) (some z) (some z2), ty, ps, af, none⟩) (hx : ev e x = some (.slice A n1 c)) (hy : ev e y = some (.int kl l)) (hz : ev e z = some (.int kh h)) (hz2 : ev e z2 = some (.int km m)) (ht : P.underlying t = some (.slice el)) {sz : Nat} (hsz : (P.info? el).map (·.size) = some sz) (h0 : 0 ≤ l ∧ l ≤ h) (h2 : h ≤ m) (hc : m ≤ (c : Int)) (hN : Nat.blt d N = true)
    (g : GO P N ops rest ((d, .slice (Jz A l.toNat m.toNat sz) (h.toNat - l.toNat) (m.toNat - l.toNat)) :: e) w Q) : GO P N ops (i :: rest) e w Q := by
  obtain ⟨inf, hi, hi2⟩ := Option.map_eq_some_iff.1 hsz
  refine GO.val _ ho rfl rfl hN (fun a hs => ?_) g
  have := rM (P := P) (w := w) (A := A) (n1 := n1) (kl := kl) (kh := kh) (km := km) ht hi h0.1 h0.2 h2 hc
  simp [execOp, hs.ev hx, hs.ev hy, hs.ev hz, hs.ev hz2, this, hi2]
theorem GO.xC {n1 : Nat} (hr : xs.length ≤ c) (ho : ops[i]? = some ⟨some d, .slice t x (some y) (some z) none, ty, ps, af, none⟩) (hx : ev e x = some (.slice (Jz A 0 c T.sz) n1 (c - 0))) (hy : ev e y = some (.int kl l)) (hz : ev e z = some (.int kh h)) (ht : P.underlying t = some (.slice el)) (hsz : (P.info? el).map (·.size) = some T.sz) (h0 : 0 ≤ l ∧ l ≤ h) (h2 : 0 ≤ h ∧ h ≤ (xs.length : Int)) (hN : Nat.blt d N = true)
    (g : GO P N ops rest ((d, .slice (Jz A l.toNat c T.sz) ((xs.take h.toNat).drop l.toNat).length (c - l.toNat)) :: e) w Q) : GO P N ops (i :: rest) e w Q := by
  obtain ⟨inf, hi, hi2⟩ := Option.map_eq_some_iff.1 hsz
  rw [Ud, Nat.sub_zero] at hx
  refine GO.val _ ho rfl rfl hN (fun a hs => ?_) g
  have := pG (P := P) (w := w) (A := A) (c := c) (n1 := n1) (kl := kl) (kh := kh) ht hi h0.1 h0.2 (by omega)
  simp [execOp, hs.ev hx, hs.ev hy, hs.ev hz, this, hi2, rA h0.1 h0.2 h2.2]
theorem iR {α : Type} {xs : List α} {i l : Nat} (h : i ≤ l) (hl : l ≤ xs.length) : (over xs i (xs.drop l)).length = xs.length := Lh (by rw [List.length_drop]; omega)
theorem GO.wN {tb : TypeId} {j i1 l1 n1 n2 : Nat} {z0 : Value} {bytes : Nat} (HS : St w0 w L) (hj : L[j]? = some (Own T tb A c ly xs)) (hfl : Flat T) (hly : ∀ k k', ly k = ly k') (ho : ops[i]? = some ⟨some d, .call { callee := .builtin .append, args := #[x, y], argTypes := #[t, t] }, ty, ps, af, none⟩) (hx : ev e x = some (.slice (Jz A 0 c T.sz) n1 (c - 0))) (hy : ev e y = some (.slice (Jz A l1 c T.sz) n2 (c - l1))) (e1 : n1 = i1) (e2 : n2 = xs.length - l1)
    (ht : P.underlying t = some (.slice el)) (hinf : (P.info? el).map (fun i => (i.zero, i.size, i.bytes)) = some (some z0, T.sz, bytes)) (hil : i1 ≤ l1) (hl : l1 ≤ xs.length) (hN : Nat.blt d N = true)
    (g : ∀ w', St w0 w' (L.set j (Own T tb A c ly (over xs i1 (xs.drop l1)))) → GO P N ops rest ((d, .slice (Jz A 0 c T.sz) (((over xs i1 (xs.drop l1)).take (i1 + (xs.length - l1))).drop 0).length (c - 0)) :: e) w' Q) : GO P N ops (i :: rest) e w Q := by
  obtain ⟨inf, hi, hzz⟩ := Option.map_eq_some_iff.1 hinf
  simp only [Prod.mk.injEq] at hzz
  obtain ⟨hz0, hz1, hz2⟩ := hzz
  subst e1
  subst e2
  have hdl : (xs.drop l1).length = xs.length - l1 := List.length_drop ..
  have hol : (over xs n1 (xs.drop l1)).length = xs.length := Lh (by rw [hdl]; omega)
  have hlen : (((over xs n1 (xs.drop l1)).take (n1 + (xs.length - l1))).drop 0).length = n1 + (xs.length - l1) := by rw [List.drop_zero, List.length_take, hol]; omega
  rw [hlen] at g
  rw [Ud, Nat.sub_zero] at g hx
  have hR := (Aq.own hj) w HS
  have hcap := hR.1
  rcases Nat.eq_zero_or_pos (xs.length - l1) with h0 | h0
  · have hd0 : xs.drop l1 = [] := List.eq_nil_of_length_eq_zero (by rw [hdl]; exact h0)
    have ho' : over xs n1 (xs.drop l1) = xs := by rw [hd0]; unfold over; simp
    rw [ho', Qw hj] at g
    refine GO.val _ ho rfl rfl hN (fun a hs => ?_) (g w HS)
    have hroom : n1 ≤ c := by omega
    cases A <;> cases hB : Jz _ l1 c T.sz <;> rw [hB] at hy <;> simp [execOp, resolve, invoke, builtin, hs.ev hx, hs.ev hy, Builtin.append_, run_underlying ht, sizeOf, typeInfo, hi, Builtin.lenOf, h0, hroom, Builtin.firstCells, loadCells, loadCellsFrom, storeCells]
  · obtain ⟨gb, og, cur, hA, hh, hfit, hst⟩ := HS.Ze (g := 0) (o := 0) (ys := xs.drop l1) (l := n1) hj hfl hly (by rw [hdl]; omega) (by rw [hdl]; exact h0)
    subst hA
    have hne : ¬ c = l1 := by omega
    have hB : Jz (some ⟨gb, og, none⟩) l1 c T.sz = some ⟨gb, og + l1 * T.sz, none⟩ := by unfold Jz; rw [if_neg hne, Option.map_some, Gt]
    rw [hB] at hy
    have hcells : rc T ly 0 (xs.drop l1) = (rc T ly 0 xs).drop (l1 * T.sz) := by
      have h3 : rc T ly 0 xs = rc T ly 0 (xs.take l1) ++ rc T ly (0 + (xs.take l1).length) (xs.drop l1) := by rw [← G7, List.take_append_drop]
      have htl : (xs.take l1).length = l1 := by rw [List.length_take]; omega
      have h4 : (rc T ly 0 (xs.take l1)).drop (l1 * T.sz) = [] := List.drop_of_length_le (by rw [D8, htl]; exact Nat.le_refl _)
      rw [h3, List.drop_append, h4, D8, htl, Nat.sub_self, List.drop_zero, List.nil_append]
      have : ∀ (i j : Nat) (zs : List α), rc T ly i zs = rc T ly j zs := by
        intro i j zs
        induction zs generalizing i j with
        | nil => rfl
        | cons z zs ih => rw [rc, rc, hly i j, ih (i + 1) (j + 1)]
      exact this _ _ _
    have hload : (loadCells ⟨gb, og + l1 * T.sz, none⟩ ((xs.length - l1) * T.sz)).run P w = .ok (rc T ly 0 (xs.drop l1)).toArray w := by
      have := run_loadCells_list (P := P) w ⟨gb, og + l1 * T.sz, none⟩ (rc T ly 0 (xs.drop l1)) (fun q v hv => by
        rw [hcells, List.getElem?_drop] at hv
        have := hR.2.2.2.1 _ _ hv
        rw [Qi, Gt] at this
        rw [Gt, Nat.add_assoc]
        exact this)
      rwa [D8, hdl] at this
    have hsto := run_storeCells_at P gb (og + n1 * T.sz) tb (rc T ly 0 (xs.drop l1)) 0 cur w hh (by rw [D8]; omega) (fun u hu => Tv hu)
    simp only [Nat.add_zero] at hsto
    have hroom : n1 + (xs.length - l1) ≤ c := by omega
    refine GO.val _ ho rfl rfl hN (fun a hs => ?_) (g _ hst)
    have had : (⟨gb, og, none⟩ : Addr).add (n1 * T.sz) = ⟨gb, og + n1 * T.sz, none⟩ := Gt ..
    simp [execOp, resolve, invoke, builtin, hs.ev hx, hs.ev hy, Builtin.append_, run_underlying ht, sizeOf, typeInfo, hi, hz1, Builtin.lenOf, hroom, Builtin.firstCells, hload, had, hsto, splice]
end
end
end Go.Proofs.YtkmeepgpmppibaaGreatDoor
