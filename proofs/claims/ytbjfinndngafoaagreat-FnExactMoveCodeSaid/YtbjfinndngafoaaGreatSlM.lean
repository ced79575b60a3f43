/-
  Strings: joined, compared, cut, indexed, walked through by runes; arrays of four Bools compared.
-/
import Derived.Test.YtbjfinndngafoaaGreatSlL
import Derived.Laws.StructEq
import Derived.ChangeKeysEq
import Derived.Laws.BytesArg
set_option linter.unusedVariables false
set_option linter.unusedSimpArgs false
namespace Go.Proofs.YtbjfinndngafoaaGreat
open Go.RowKit
def seq (a b : ByteArray) : Bool := a.toList == b.toList
section
variable {P : Program} {N : Nat} {e : Env} {w0 w : World} {L : List HObj} {Q : Act → World → Prop} {ops : Array Oper} {i d : Nat} {rest : List Nat} {ty : TypeId} {ps : String} {af : Array Edge} {t t' : TypeId} {x y z : Operand} {a b : ByteArray}
theorem run_eqInt {k : IntKind} {u v : Int} (ht : P.underlying t = some (.int k)) (dp : Nat) (w : World) : (Op.equalIn (dp + 1) t (.int k u) (.int k v)).run P w = .ok (u == v) w := by simp [Op.equalIn, run_underlying ht]
theorem eq_pair {f0 f1 : Field} {a0 a1 b0 b1 : Int} (hu : P.underlying t = some (.struct #[f0, f1])) (hs : P.stoodInHeld t = false) (hn : (f0.name ≠ "_" ∧ f1.name ≠ "_") ∧ f0.offset = 0 ∧ f1.offset = 1) (t0 : P.underlying f0.type = some (.int .i64)) (t1 : P.underlying f1.type = some (.int .i64)) (n0 : naB P f0.type = true) (n1 : naB P f1.type = true) :
    (Op.equal t (.agg [.int .i64 a0, .int .i64 a1].toArray) (.agg [.int .i64 b0, .int .i64 b1].toArray)).run P w = .ok (decide ((a0, a1) = (b0, b1))) w := by
  show (Op.equalIn (9999 + 1) t _ _).run P w = _
  have hf : P.fieldsOf t = #[f0, f1] := by simp [Program.fieldsOf, hu]
  rw [run_equalIn_struct w 9999 t _ _ (by rw [hf]; exact hu) hs, hf]
  have e : (9999 : Nat) = 9998 + 1 := rfl
  rw [e]
  by_cases h0 : a0 = b0 <;> by_cases h1 : a1 = b1 <;> simp [Op.eqFields, part, h0, h1, hn.1.1, hn.1.2, hn.2.1, hn.2.2, run_isAgg_no n0, run_isAgg_no n1, run_eqInt t0, run_eqInt t1]
theorem GO.eqlA {vs us : List Value} {r : Bool} (ho : ops[i]? = some ⟨some d, .binOp .eql t x y t', ty, ps, af, none⟩) (hx : ev e x = some (.agg vs.toArray)) (hy : ev e y = some (.agg us.toArray)) (hg : P.eqGuardType P.depth t = false) (hr : ∀ w, (Op.equal t (.agg vs.toArray) (.agg us.toArray)).run P w = .ok r w) (hN : Nat.blt d N = true) (g : GO P N ops rest ((d, .bool r) :: e) w Q) : GO P N ops (i :: rest) e w Q :=
  GO.val _ ho rfl rfl hN (fun a hs => by
    have h1 := hr w
    simp [execOp, hs.ev hx, hs.ev hy, eqGuard, binOp, Sem.program, hg, h1]) g
theorem GO.neqA {vs us : List Value} {r : Bool} (ho : ops[i]? = some ⟨some d, .binOp .neq t x y t', ty, ps, af, none⟩) (hx : ev e x = some (.agg vs.toArray)) (hy : ev e y = some (.agg us.toArray)) (hg : P.eqGuardType P.depth t = false) (hr : ∀ w, (Op.equal t (.agg vs.toArray) (.agg us.toArray)).run P w = .ok r w) (hN : Nat.blt d N = true) (g : GO P N ops rest ((d, .bool (!r)) :: e) w Q) : GO P N ops (i :: rest) e w Q :=
  GO.val _ ho rfl rfl hN (fun a hs => by
    have h1 := hr w
    simp [execOp, hs.ev hx, hs.ev hy, eqGuard, binOp, Sem.program, hg, h1]) g
theorem RdIn.take {α : Type} {T : Ty α} {w0 : World} {L : List HObj} {A : Option Addr} {c h : Nat} {ly : Nat → T.Lay} {xs : List α} (hr : RdIn w0 L T A c ly xs) (hh : h ≤ xs.length) : RdIn w0 L T A c ly (xs.take h) := fun w hs => by
  have h0 := hr w hs
  have hl : (xs.take h).length = h := by rw [List.length_take]; omega
  refine ⟨by rw [hl]; exact Nat.le_trans hh h0.1, h0.2.1, fun hp => h0.2.2.1 (by omega), fun j u hu => h0.2.2.2.1 j u ?_, fun i x hx => h0.2.2.2.2 i x ?_⟩
  · have : rc T ly 0 xs = rc T ly 0 (xs.take h) ++ rc T ly (0 + (xs.take h).length) (xs.drop h) := by rw [← rc_append, List.take_append_drop]
    rw [this]
    exact List.getElem?_append_left (List.getElem?_eq_some_iff.1 hu).1 ▸ hu
  · rw [List.getElem?_take] at hx
    split at hx
    · exact hx
    · cases hx
theorem GO.slArrH {el : TypeId} {b n sz m : Nat} {kh : IntKind} {h : Int} (ho : ops[i]? = some ⟨some d, .slice t x none (some z) none, ty, ps, af, none⟩) (hx : ev e x = some (.pointer (some ⟨b, 0, none⟩))) (hz : ev e z = some (.int kh h)) (ht : P.underlying t = some (.array n el)) (hsz : (P.info? el).map (·.size) = some sz) (h1 : 0 ≤ h ∧ h ≤ (n : Int)) (hm : h.toNat = m)
    (hN : Nat.blt d N = true) (g : GO P N ops rest ((d, .slice (some ⟨b, 0, none⟩) m n) :: e) w Q) : GO P N ops (i :: rest) e w Q :=
  GO.val _ ho rfl rfl hN (fun a hs => by
    obtain ⟨inf, hi, hi2⟩ := Option.map_eq_some_iff.1 hsz
    have eh : (h.toNat : Int) = h := Int.toNat_of_nonneg h1.1
    simp [execOp, hs.ev hx, hs.ev hz, Instr.sliceAt, Instr.sureAddr, Instr.sliceBounds, run_sliceBound, run_underlying ht, sizeOf, typeInfo, hi, h1.1, h1.2, hm, Addr.add]) g
theorem lenTake {α : Type} {xs : List α} {h : Nat} (hh : h ≤ xs.length) : h = (xs.take h).length := by rw [List.length_take]; omega
theorem lenCut {α : Type} {xs ys : List α} {h : Nat} (e : ys.length = xs.length) : ((xs.take h).drop 0).length = ((ys.take h).drop 0).length := by rw [List.drop_zero, List.drop_zero, List.length_take, List.length_take, e]
section
variable {α : Type} {T : Ty α} {A : Option Addr} {c : Nat} {ly : Nat → T.Lay} {xs : List α} {t el : TypeId} {kl kh km : IntKind} {l h m : Int}
theorem run_slB {inf : TypeInfo} {n1 : Nat} (ht : P.underlying t = some (.slice el)) (hi : P.info? el = some inf) (h0 : 0 ≤ l) (h1 : l ≤ h) (hc : h ≤ (c : Int)) :
    (Instr.sliceAt t (.slice A n1 c) (some (.int kl l)) (some (.int kh h)) none).run P w = .ok (.slice (cutA A l.toNat c inf.size) (h.toNat - l.toNat) (c - l.toNat)) w := by
  have eh : (h.toNat : Int) = h := Int.toNat_of_nonneg (by omega)
  have he : P.elem t = el := by simp [Program.elem, ht]
  have ht' : P.underlying t = some (.slice (P.elem t)) := by rw [he]; exact ht
  have hs : (sizeOf (P.elem t)).run P w = .ok inf.size w := by rw [he]; simp [sizeOf, typeInfo, hi]
  have h4 : 0 ≤ h := by omega
  have hN : l.toNat ≤ h.toNat ∧ h.toNat ≤ c := by omega
  rw [run_sliceAt_slice (h := ht')]
  simp [Instr.slice, run_underlying ht', Instr.sliceBounds, run_sliceBound, hs, cutA, h0, h1, h4, hc, eh, hN]
theorem run_slC {inf : TypeInfo} {n1 : Nat} (ht : P.underlying t = some (.slice el)) (hi : P.info? el = some inf) (h0 : 0 ≤ l) (h1 : l ≤ h) (h2 : h ≤ m) (hc : m ≤ (c : Int)) :
    (Instr.sliceAt t (.slice A n1 c) (some (.int kl l)) (some (.int kh h)) (some (.int km m))).run P w = .ok (.slice (cutA A l.toNat m.toNat inf.size) (h.toNat - l.toNat) (m.toNat - l.toNat)) w := by
  have eh : (h.toNat : Int) = h := Int.toNat_of_nonneg (by omega)
  have em : (m.toNat : Int) = m := Int.toNat_of_nonneg (by omega)
  have he : P.elem t = el := by simp [Program.elem, ht]
  have ht' : P.underlying t = some (.slice (P.elem t)) := by rw [he]; exact ht
  have hs : (sizeOf (P.elem t)).run P w = .ok inf.size w := by rw [he]; simp [sizeOf, typeInfo, hi]
  have h4 : 0 ≤ h := by omega
  have h5 : 0 ≤ m := by omega
  rw [run_sliceAt_slice (h := ht')]
  simp [Instr.slice, run_underlying ht', Instr.sliceBounds, run_sliceBound, hs, cutA, h0, h1, h2, h4, h5, hc, eh, em]
theorem GO.slM {z2 : Operand} {n1 : Nat} (ho : ops[i]? = some ⟨some d, .slice t x (some y) (some z) (some z2), ty, ps, af, none⟩) (hx : ev e x = some (.slice A n1 c)) (hy : ev e y = some (.int kl l)) (hz : ev e z = some (.int kh h)) (hz2 : ev e z2 = some (.int km m)) (ht : P.underlying t = some (.slice el)) {sz : Nat} (hsz : (P.info? el).map (·.size) = some sz) (h0 : 0 ≤ l ∧ l ≤ h) (h2 : h ≤ m) (hc : m ≤ (c : Int)) (hN : Nat.blt d N = true)
    (g : GO P N ops rest ((d, .slice (cutA A l.toNat m.toNat sz) (h.toNat - l.toNat) (m.toNat - l.toNat)) :: e) w Q) : GO P N ops (i :: rest) e w Q := by
  obtain ⟨inf, hi, hi2⟩ := Option.map_eq_some_iff.1 hsz
  refine GO.val _ ho rfl rfl hN (fun a hs => ?_) g
  have := run_slC (P := P) (w := w) (A := A) (n1 := n1) (kl := kl) (kh := kh) (km := km) ht hi h0.1 h0.2 h2 hc
  simp [execOp, hs.ev hx, hs.ev hy, hs.ev hz, hs.ev hz2, this, hi2]
theorem GO.slCut {n1 : Nat} (hr : xs.length ≤ c) (ho : ops[i]? = some ⟨some d, .slice t x (some y) (some z) none, ty, ps, af, none⟩) (hx : ev e x = some (.slice (cutA A 0 c T.sz) n1 (c - 0))) (hy : ev e y = some (.int kl l)) (hz : ev e z = some (.int kh h)) (ht : P.underlying t = some (.slice el)) (hsz : (P.info? el).map (·.size) = some T.sz) (h0 : 0 ≤ l ∧ l ≤ h) (h2 : 0 ≤ h ∧ h ≤ (xs.length : Int)) (hN : Nat.blt d N = true)
    (g : GO P N ops rest ((d, .slice (cutA A l.toNat c T.sz) ((xs.take h.toNat).drop l.toNat).length (c - l.toNat)) :: e) w Q) : GO P N ops (i :: rest) e w Q := by
  obtain ⟨inf, hi, hi2⟩ := Option.map_eq_some_iff.1 hsz
  rw [cutA_zero, Nat.sub_zero] at hx
  refine GO.val _ ho rfl rfl hN (fun a hs => ?_) g
  have := run_slB (P := P) (w := w) (A := A) (c := c) (n1 := n1) (kl := kl) (kh := kh) ht hi h0.1 h0.2 (by omega)
  simp [execOp, hs.ev hx, hs.ev hy, hs.ev hz, this, hi2, cut_len h0.1 h0.2 h2.2]
theorem over_lenD {α : Type} {xs : List α} {i l : Nat} (h : i ≤ l) (hl : l ≤ xs.length) : (over xs i (xs.drop l)).length = xs.length := over_length (by rw [List.length_drop]; omega)
theorem GO.appCut {tb : TypeId} {j i1 l1 n1 n2 : Nat} {z0 : Value} {bytes : Nat} (HS : St w0 w L) (hj : L[j]? = some (Own T tb A c ly xs)) (hfl : Flat T) (hly : ∀ k k', ly k = ly k') (ho : ops[i]? = some ⟨some d, .call { callee := .builtin .append, args := #[x, y], argTypes := #[t, t] }, ty, ps, af, none⟩) (hx : ev e x = some (.slice (cutA A 0 c T.sz) n1 (c - 0))) (hy : ev e y = some (.slice (cutA A l1 c T.sz) n2 (c - l1))) (e1 : n1 = i1) (e2 : n2 = xs.length - l1)
    (ht : P.underlying t = some (.slice el)) (hinf : (P.info? el).map (fun i => (i.zero, i.size, i.bytes)) = some (some z0, T.sz, bytes)) (hil : i1 ≤ l1) (hl : l1 ≤ xs.length) (hN : Nat.blt d N = true)
    (g : ∀ w', St w0 w' (L.set j (Own T tb A c ly (over xs i1 (xs.drop l1)))) → GO P N ops rest ((d, .slice (cutA A 0 c T.sz) (((over xs i1 (xs.drop l1)).take (i1 + (xs.length - l1))).drop 0).length (c - 0)) :: e) w' Q) : GO P N ops (i :: rest) e w Q := by
  obtain ⟨inf, hi, hzz⟩ := Option.map_eq_some_iff.1 hinf
  simp only [Prod.mk.injEq] at hzz
  obtain ⟨hz0, hz1, hz2⟩ := hzz
  subst e1
  subst e2
  have hdl : (xs.drop l1).length = xs.length - l1 := List.length_drop ..
  have hol : (over xs n1 (xs.drop l1)).length = xs.length := over_length (by rw [hdl]; omega)
  have hlen : (((over xs n1 (xs.drop l1)).take (n1 + (xs.length - l1))).drop 0).length = n1 + (xs.length - l1) := by rw [List.drop_zero, List.length_take, hol]; omega
  rw [hlen] at g
  rw [cutA_zero, Nat.sub_zero] at g hx
  have hR := (RdIn.own hj) w HS
  have hcap := hR.1
  rcases Nat.eq_zero_or_pos (xs.length - l1) with h0 | h0
  · have hd0 : xs.drop l1 = [] := List.eq_nil_of_length_eq_zero (by rw [hdl]; exact h0)
    have ho' : over xs n1 (xs.drop l1) = xs := by rw [hd0]; unfold over; simp
    rw [ho', set_same hj] at g
    refine GO.val _ ho rfl rfl hN (fun a hs => ?_) (g w HS)
    have hroom : n1 ≤ c := by omega
    cases A <;> cases hB : cutA _ l1 c T.sz <;> rw [hB] at hy <;> simp [execOp, resolve, invoke, builtin, hs.ev hx, hs.ev hy, Builtin.append_, run_underlying ht, sizeOf, typeInfo, hi, Builtin.lenOf, h0, hroom, Builtin.firstCells, loadCells, loadCellsFrom, storeCells]
  · obtain ⟨gb, og, cur, hA, hh, hfit, hst⟩ := HS.overRow (g := 0) (o := 0) (ys := xs.drop l1) (l := n1) hj hfl hly (by rw [hdl]; omega) (by rw [hdl]; exact h0)
    subst hA
    have hne : ¬ c = l1 := by omega
    have hB : cutA (some ⟨gb, og, none⟩) l1 c T.sz = some ⟨gb, og + l1 * T.sz, none⟩ := by unfold cutA; rw [if_neg hne, Option.map_some, addr_off]
    rw [hB] at hy
    have hcells : rc T ly 0 (xs.drop l1) = (rc T ly 0 xs).drop (l1 * T.sz) := by
      have h3 : rc T ly 0 xs = rc T ly 0 (xs.take l1) ++ rc T ly (0 + (xs.take l1).length) (xs.drop l1) := by rw [← rc_append, List.take_append_drop]
      have htl : (xs.take l1).length = l1 := by rw [List.length_take]; omega
      have h4 : (rc T ly 0 (xs.take l1)).drop (l1 * T.sz) = [] := List.drop_of_length_le (by rw [rc_length, htl]; exact Nat.le_refl _)
      rw [h3, List.drop_append, h4, rc_length, htl, Nat.sub_self, List.drop_zero, List.nil_append]
      have : ∀ (i j : Nat) (zs : List α), rc T ly i zs = rc T ly j zs := by
        intro i j zs
        induction zs generalizing i j with
        | nil => rfl
        | cons z zs ih => rw [rc, rc, hly i j, ih (i + 1) (j + 1)]
      exact this _ _ _
    have hload : (loadCells ⟨gb, og + l1 * T.sz, none⟩ ((xs.length - l1) * T.sz)).run P w = .ok (rc T ly 0 (xs.drop l1)).toArray w := by
      have := run_loadCells_list (P := P) w ⟨gb, og + l1 * T.sz, none⟩ (rc T ly 0 (xs.drop l1)) (fun q v hv => by
        rw [hcells, List.getElem?_drop] at hv
        have := hR.2.2.2.1 _ _ hv
        rw [ea_some, addr_off] at this
        rw [addr_off, Nat.add_assoc]
        exact this)
      rwa [rc_length, hdl] at this
    have hsto := run_storeCells_at P gb (og + n1 * T.sz) tb (rc T ly 0 (xs.drop l1)) 0 cur w hh (by rw [rc_length]; omega) (fun u hu => rc_one hu)
    simp only [Nat.add_zero] at hsto
    have hroom : n1 + (xs.length - l1) ≤ c := by omega
    refine GO.val _ ho rfl rfl hN (fun a hs => ?_) (g _ hst)
    have had : (⟨gb, og, none⟩ : Addr).add (n1 * T.sz) = ⟨gb, og + n1 * T.sz, none⟩ := addr_off ..
    simp [execOp, resolve, invoke, builtin, hs.ev hx, hs.ev hy, Builtin.append_, run_underlying ht, sizeOf, typeInfo, hi, hz1, Builtin.lenOf, hroom, Builtin.firstCells, hload, had, hsto, splice]
end
end
end Go.Proofs.YtbjfinndngafoaaGreat
