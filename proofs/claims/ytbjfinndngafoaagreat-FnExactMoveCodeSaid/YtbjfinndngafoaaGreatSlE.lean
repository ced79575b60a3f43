/-
  The operations on memory, one rule each.
-/
import Derived.Test.YtbjfinndngafoaaGreatSlD
import Derived.Laws.MakeOwn
import Derived.ArgAppend
import Derived.Maps.AppendAt
import Derived.Laws.CopyRow
set_option linter.unusedVariables false
set_option linter.unusedSimpArgs false
namespace Go.Proofs.YtbjfinndngafoaaGreat
open Go.RowKit
def evp (e : Env) : List (Nat × Operand) → Option (List (Nat × Value))
  | [] => some []
  | p :: r => (ev e p.2).bind fun v => (evp e r).map ((p.1, v) :: ·)
theorem Sat.evp {N : Nat} {e : Env} {a : Act} (h : Sat N e a) : ∀ {xs : List (Nat × Operand)} {vs : List (Nat × Value)}, evp e xs = some vs → xs.map (fun p => (p.1, a.eval p.2)) = vs
  | [], vs, hx => by cases hx; rfl
  | x :: r, vs, hx => by
    unfold Go.Proofs.YtbjfinndngafoaaGreat.evp at hx
    cases hv : Go.Proofs.YtbjfinndngafoaaGreat.ev e x.2 with
    | none => rw [hv] at hx; cases hx
    | some v =>
      rw [hv] at hx
      cases hr : Go.Proofs.YtbjfinndngafoaaGreat.evp e r with
      | none => rw [hr] at hx; cases hx
      | some us =>
        rw [hr] at hx
        cases hx
        rw [List.map_cons, h.ev hv, h.evp hr]
theorem Sat.evpA {N : Nat} {e : Env} {a : Act} (h : Sat N e a) {xs : Array (Nat × Operand)} {vs : List (Nat × Value)} (hx : Go.Proofs.YtbjfinndngafoaaGreat.evp e xs.toList = some vs) : xs.map (fun p => (p.1, a.eval p.2)) = vs.toArray := by
  rw [← h.evp hx, ← List.map_toArray, Array.toArray_toList]
def naB (P : Program) (t : TypeId) : Bool := (match P.underlying t with | some (.struct _) => false | some (.array _ _) => false | some _ => true | none => false) && ((P.info? t).map (·.size) == some 1)
def agB (P : Program) (t : TypeId) (n : Nat) : Bool := (match P.underlying t with | some (.struct _) => true | some (.array _ _) => true | _ => false) && ((P.info? t).map (·.size) == some n)
section
variable {P : Program} {w : World} {t : TypeId}
theorem run_isAgg_no (h : naB P t = true) : (isAgg t).run P w = .ok false w := by
  unfold naB at h
  rw [Bool.and_eq_true] at h
  cases hu : P.underlying t with
  | none => rw [hu] at h; simp at h
  | some d =>
    rw [hu] at h
    cases d <;> simp [isAgg, run_underlying hu] at h ⊢
theorem run_isAgg_yes {n : Nat} (h : agB P t n = true) : (isAgg t).run P w = .ok true w := by
  unfold agB at h
  rw [Bool.and_eq_true] at h
  cases hu : P.underlying t with
  | none => rw [hu] at h; simp at h
  | some d =>
    rw [hu] at h
    cases d <;> simp [isAgg, run_underlying hu] at h ⊢
theorem run_size_no (h : naB P t = true) : (sizeOf t).run P w = .ok 1 w := by
  unfold naB at h
  rw [Bool.and_eq_true, beq_iff_eq] at h
  obtain ⟨i, hi, h1⟩ := Option.map_eq_some_iff.1 h.2
  simp [sizeOf, typeInfo, hi, h1]
theorem run_size_yes {n : Nat} (h : agB P t n = true) : (sizeOf t).run P w = .ok n w := by
  unfold agB at h
  rw [Bool.and_eq_true, beq_iff_eq] at h
  obtain ⟨i, hi, h1⟩ := Option.map_eq_some_iff.1 h.2
  simp [sizeOf, typeInfo, hi, h1]
theorem run_ld_no (h : naB P t = true) {ad : Addr} {v : Value} (hc : w.cell? ad = some v) : (loadVar t ad).run P w = .ok v w := by
  simp [loadVar, run_isAgg_no h, hc]
theorem run_ld_yes {cs : List Value} (h : agB P t cs.length = true) {ad : Addr} (hc : ∀ j v, cs[j]? = some v → w.cell? (ad.add j) = some v) : (loadVar t ad).run P w = .ok (.agg cs.toArray) w := by
  simp [loadVar, run_isAgg_yes h, run_size_yes h, run_loadCells_list (P := P) w ad cs hc]
end
theorem St.setBoxV {w0 w : World} {L : List HObj} {b j : Nat} {t : TypeId} {cs : List Value} (h : St w0 w L) (hj : L[j]? = some (Box b t cs)) (o : Nat) (vs : List Value) :
    St w0 (w.setRow b (splice cs o vs).toArray) (L.set j (Box b t (splice cs o vs))) :=
  h.upd hj (by simp) rfl rfl rfl (fun q hq => ⟨q, fun k hk => .inl hk, ⟨hq.1, setRow_heap w b _ _ t (0, 0) hq.2⟩, fun k hk hn => setRow_other w b k _ (fun e => hn (by rw [e]; exact hq.1))⟩)
theorem run_st {P : Program} {t : TypeId} {w : World} {b o : Nat} {tb : TypeId} {cs vs : List Value} {v : Value} (hv : v.cells = vs.toArray) (hs : (sizeOf t).run P w = .ok vs.length w) (hb : w.heap[b]? = some (.cells cs.toArray tb (0, 0))) (h1 : ∀ u ∈ vs, u.oneCell' = true) (hl : o + vs.length ≤ cs.length) :
    (storeVar t ⟨b, o, none⟩ v).run P w = .ok () (w.setRow b (splice cs o vs).toArray) := by
  have h2 := run_storeCells_at P b o tb vs 0 cs.toArray w hb (by simpa using hl) h1
  simp only [Nat.add_zero] at h2
  simp [storeVar, hs, hv, h2, splice]
theorem run_st_row {P : Program} {t : TypeId} {w : World} {b o : Nat} {tb : TypeId} {cur : Array Value} {vs : List Value} {v : Value} (hv : v.cells = vs.toArray) (hs : (sizeOf t).run P w = .ok vs.length w) (hb : w.heap[b]? = some (.cells cur tb (0, 0))) (h1 : ∀ u ∈ vs, u.oneCell' = true) (hl : o + vs.length ≤ cur.size) :
    (storeVar t ⟨b, o, none⟩ v).run P w = .ok () (w.setRow b (splice cur.toList o vs).toArray) := by
  have h2 := run_storeCells_at P b o tb vs 0 cur w hb (by simpa using hl) h1
  simp only [Nat.add_zero] at h2
  simp [storeVar, hs, hv, h2, splice]
section
variable {α : Type} {T : Ty α} {ly : Nat → T.Lay}
theorem rc_splice : ∀ {xs : List α} {i n f : Nat} {x y : α} {vs : List Value}, xs[n]? = some x → f + vs.length ≤ T.sz → T.cells (ly (i + n)) y = splice (T.cells (ly (i + n)) x) f vs → rc T ly i (xs.set n y) = splice (rc T ly i xs) (n * T.sz + f) vs
  | x :: r, i, 0, f, _, y, vs, h, hj, hy => by
    cases h
    have hy' : T.cells (ly i) y = splice (T.cells (ly i) x) f vs := hy
    rw [List.set_cons_zero, rc, rc, Nat.zero_mul, Nat.zero_add, hy']
    unfold splice
    have hl := T.len (ly i) x
    rw [List.take_append_of_le_length (by omega), List.drop_append_of_le_length (by omega)]
    simp only [List.append_assoc]
  | z :: r, i, n + 1, f, x, y, vs, h, hj, hy => by
    rw [List.set_cons_succ, rc, rc, rc_splice (i := i + 1) (x := x) (by simpa using h) hj (by rw [show i + 1 + n = i + (n + 1) by omega]; exact hy)]
    unfold splice
    have hl := T.len (ly i) z
    have h1 : (n + 1) * T.sz + f = T.sz + (n * T.sz + f) := by rw [Nat.succ_mul]; omega
    rw [h1, List.take_append, List.drop_append, hl]
    have h2 : (T.cells (ly i) z).take (T.sz + (n * T.sz + f)) = T.cells (ly i) z := List.take_of_length_le (by omega)
    have h3 : (T.cells (ly i) z).drop (T.sz + (n * T.sz + f) + vs.length) = [] := List.drop_of_length_le (by omega)
    rw [h2, h3, show T.sz + (n * T.sz + f) - T.sz = n * T.sz + f by omega, show T.sz + (n * T.sz + f) + vs.length - T.sz = n * T.sz + f + vs.length by omega]
    simp only [List.append_assoc, List.nil_append]
theorem St.setRowV {w0 w : World} {L : List HObj} {A : Option Addr} {c j n f : Nat} {t : TypeId} {xs : List α} {x y : α} {vs : List Value} (h : St w0 w L) (hj : L[j]? = some (Own T t A c ly xs)) (hfl : Flat T) (hx : xs[n]? = some x) (hf : f + vs.length ≤ T.sz) (hy : T.cells (ly n) y = splice (T.cells (ly n) x) f vs) :
    ∃ (g o : Nat) (cur : Array Value), ea A (n * T.sz + f) = ⟨g, o, none⟩ ∧ w.heap[g]? = some (.cells cur t (0, 0)) ∧ o + vs.length ≤ cur.size ∧ St w0 (w.setRow g (splice cur.toList o vs).toArray) (L.set j (Own T t A c ly (xs.set n y))) := by
  have hnl := (List.getElem?_eq_some_iff.1 hx).1
  obtain ⟨q, _, ho⟩ := h.get hj
  obtain ⟨q1, q2, h1, h2, hd, hown, hb, hs⟩ := ho
  obtain ⟨g, o, cur, hA, hh, hnc, hcm, hsz, htk⟩ := hown.open (by omega)
  subst hA
  have hmul : (n + 1) * T.sz ≤ xs.length * T.sz := Nat.mul_le_mul_right _ hnl
  rw [Nat.succ_mul] at hmul
  have hput := hown.put (k := n * T.sz + f) (vs := vs) hh (by rw [rc_length]; omega)
  refine ⟨g, o + (n * T.sz + f), cur, by rw [ea_some, addr_off], hh, hput.1, h.upd hj (by simp) rfl rfl rfl (fun q ho => ?_)⟩
  obtain ⟨q1, q2, h1, h2, hd, hown, hb, hs⟩ := ho
  have hg : q1 g := hb g rfl
  refine ⟨q, fun k hk => .inl hk, ⟨q1, q2, h1, h2, hd, ?_, by rw [List.length_set]; exact hb, SepM.flat hfl _ _ _⟩, fun k hk hn => setRow_other w g k _ (fun e => hn (by rw [e]; exact h1 g hg))⟩
  rw [List.length_set, rc_splice hx hf (by rw [Nat.zero_add]; exact hy)]
  exact hput.2
end
theorem replicate_get {α : Type} {T : Ty α} (l : T.Lay) (z : α) : ∀ (n i : Nat), rc T (fun _ => l) i (List.replicate n z) = (List.replicate n (T.cells l z)).flatten
  | 0, _ => rfl
  | n + 1, i => by rw [List.replicate_succ, rc, List.replicate_succ, List.flatten_cons, replicate_get]
theorem toList_madeCells (z : List Value) (hz : 0 < z.length) : ∀ n, (madeCells z.toArray (n * z.length)).toList = (List.replicate n z).flatten := by
  intro n
  apply List.ext_getElem?
  intro j
  simp only [madeCells, Array.toList_map, Array.toList_range, List.size_toArray]
  rw [List.getElem?_map]
  have hfl : ∀ (m : Nat), ((List.replicate m z).flatten).length = m * z.length := fun m => by simp
  by_cases hj : j < n * z.length
  · rw [List.getElem?_range hj, Option.map_some]
    have key : ∀ (m j : Nat), j < m * z.length → ((List.replicate m z).flatten)[j]? = z[j % z.length]? := by
      intro m
      induction m with
      | zero => intro j hj; omega
      | succ m ih =>
        intro j hj
        rw [List.replicate_succ, List.flatten_cons]
        rcases Nat.lt_or_ge j z.length with h | h
        · rw [List.getElem?_append_left h, Nat.mod_eq_of_lt h]
        · rw [List.getElem?_append_right h, ih (j - z.length) (by rw [Nat.succ_mul] at hj; omega), ← Nat.mod_eq_sub_mod h]
    rw [key n j hj]
    have hm := Nat.mod_lt j hz
    simp [List.getElem?_eq_getElem hm, hm]
  · rw [List.getElem?_eq_none (by simp; omega), List.getElem?_eq_none (by rw [hfl]; omega)]
    rfl
section
variable {α : Type} {T : Ty α} {P : Program} {f : FuncId} {N : Nat} {e : Env} {k : List Item} {w0 w : World} {L : List HObj} {R : Ending → World → Prop} {Q : Act → World → Prop} {ops : Array Oper} {i d : Nat} {rest : List Nat} {ty : TypeId} {ps : String} {af : Array Edge}
theorem GO.alloc {t : TypeId} {z : Value} {cs : List Value} (HS : St w0 w L) (ho : ops[i]? = some ⟨some d, .alloc t, ty, ps, af, none⟩) (hz : (P.info? t).map (·.zero) = some (some z)) (hc : z.cells = cs.toArray) (hN : Nat.blt d N = true)
    (g : ∀ b w', St w0 w' (Box b t cs :: L) → GO P N ops rest ((d, .pointer (some ⟨b, 0, none⟩)) :: e) w' Q) : GO P N ops (i :: rest) e w Q := by
  obtain ⟨inf, hi, hz'⟩ := Option.map_eq_some_iff.1 hz
  exact GO.val _ ho rfl rfl hN (fun a hs => by simp [execOp, Instr.alloc, zeroValue, typeInfo, hi, hz', newVar, newRow, hc]) (g _ _ (HS.alloc cs t))
theorem GO.box {t : TypeId} {x : Operand} {v : Value} {cs : List Value} (HS : St w0 w L) (ho : ops[i]? = some ⟨some d, .box t x, ty, ps, af, none⟩) (hx : ev e x = some v) (hc : v.cells = cs.toArray) (hN : Nat.blt d N = true)
    (g : ∀ b w', St w0 w' (Box b t cs :: L) → GO P N ops rest ((d, .pointer (some ⟨b, 0, none⟩)) :: e) w' Q) : GO P N ops (i :: rest) e w Q :=
  GO.val _ ho rfl rfl hN (fun a hs => by simp [execOp, Instr.box, hs.ev hx, newVar, newRow, hc]) (g _ _ (HS.alloc cs t))
theorem GO.buildV {t : TypeId} {parts : Array (Nat × Operand)} {vs : List (Nat × Value)} (v : Value) (ho : ops[i]? = some ⟨some d, .build t parts, ty, ps, af, none⟩) (hx : evp e parts.toList = some vs) (hr : ∀ w, (Instr.build t vs.toArray).run P w = .ok v w) (hN : Nat.blt d N = true)
    (g : GO P N ops rest ((d, v) :: e) w Q) : GO P N ops (i :: rest) e w Q :=
  GO.build v ho (fun a hs => hs.evpA hx) hr hN g
theorem GO.buildS {t el : TypeId} {n : Nat} {parts : Array (Nat × Operand)} {vs : List (Nat × Value)} (cs : List Value) (HS : St w0 w L) (ho : ops[i]? = some ⟨some d, .buildSlice t n parts, ty, ps, af, none⟩) (hx : evp e parts.toList = some vs)
    (hr : ∀ w, (Instr.buildSlice t n vs.toArray).run P w = .ok (.slice (some ⟨w.heap.size, 0, none⟩) n n) (w.alloc (.cells cs.toArray el))) (hN : Nat.blt d N = true)
    (g : ∀ b w', St w0 w' (Box b el cs :: L) → GO P N ops rest ((d, .slice (some ⟨b, 0, none⟩) n n) :: e) w' Q) : GO P N ops (i :: rest) e w Q :=
  GO.val _ ho rfl rfl hN (fun a hs => by
    simp only [execOp]
    rw [show (Array.map (fun x => match x with | (i, x) => (i, a.eval x)) parts) = parts.map (fun p => (p.1, a.eval p.2)) from rfl, hs.evpA hx]
    simp [hr w]) (g _ _ (HS.alloc cs el))
theorem GO.ldBox {t tb : TypeId} {x : Operand} {b off j : Nat} {cs : List Value} {v : Value} (HS : St w0 w L) (hj : L[j]? = some (Box b tb cs)) (ho : ops[i]? = some ⟨some d, .load t x, ty, ps, af, none⟩) (hx : ev e x = some (.pointer (some ⟨b, off, none⟩))) (hv : cs[off]? = some v) (ht : naB P t = true) (hN : Nat.blt d N = true)
    (g : GO P N ops rest ((d, v) :: e) w Q) : GO P N ops (i :: rest) e w Q :=
  GO.val _ ho rfl rfl hN (fun a hs => by simp [execOp, Instr.loadAt, Instr.sureAddr, hs.ev hx, run_ld_no ht (HS.boxCell hj hv)]) g
theorem GO.ldBoxA {t tb : TypeId} {x : Operand} {b off j : Nat} {cs : List Value} (vs : List Value) (HS : St w0 w L) (hj : L[j]? = some (Box b tb cs)) (ho : ops[i]? = some ⟨some d, .load t x, ty, ps, af, none⟩) (hx : ev e x = some (.pointer (some ⟨b, off, none⟩))) (hv : (cs.drop off).take vs.length = vs) (ht : agB P t vs.length = true) (hN : Nat.blt d N = true)
    (g : GO P N ops rest ((d, .agg vs.toArray) :: e) w Q) : GO P N ops (i :: rest) e w Q :=
  GO.val _ ho rfl rfl hN (fun a hs => by
    have hc : ∀ j v, vs[j]? = some v → w.cell? ((⟨b, off, none⟩ : Addr).add j) = some v := fun m u hu => by
      rw [addr_off]
      refine HS.boxCell hj ?_
      rw [← hv, List.getElem?_take] at hu
      split at hu
      · rwa [List.getElem?_drop] at hu
      · cases hu
    simp [execOp, Instr.loadAt, Instr.sureAddr, hs.ev hx, run_ld_yes ht hc]) g
theorem GO.ldRd {t : TypeId} {x : Operand} {A : Option Addr} {c n o : Nat} {ly : Nat → T.Lay} {xs : List α} {x0 : α} {v : Value} (HS : St w0 w L) (hr : RdIn w0 L T A c ly xs) (ho : ops[i]? = some ⟨some d, .load t x, ty, ps, af, none⟩) (hx : ev e x = some (.pointer (some (ea A (n * T.sz + o))))) (hn : xs[n]? = some x0) (hof : Nat.blt o T.sz = true) (hv : (T.cells (ly n) x0)[o]? = some v) (ht : naB P t = true) (hN : Nat.blt d N = true)
    (g : GO P N ops rest ((d, v) :: e) w Q) : GO P N ops (i :: rest) e w Q :=
  GO.val _ ho rfl rfl hN (fun a hs => by
    have hc := (hr w HS).cell hn (Nat.le_of_ble_eq_true hof) hv
    simp [execOp, Instr.loadAt, Instr.sureAddr, hs.ev hx, run_ld_no ht hc]) g
theorem GO.ldRdA {t : TypeId} {x : Operand} {A : Option Addr} {c n : Nat} {ly : Nat → T.Lay} {xs : List α} {x0 : α} (HS : St w0 w L) (hr : RdIn w0 L T A c ly xs) (ho : ops[i]? = some ⟨some d, .load t x, ty, ps, af, none⟩) (hx : ev e x = some (.pointer (some (ea A (n * T.sz))))) (hn : xs[n]? = some x0) (ht : agB P t T.sz = true) (hN : Nat.blt d N = true)
    (g : GO P N ops rest ((d, .agg (T.cells (ly n) x0).toArray) :: e) w Q) : GO P N ops (i :: rest) e w Q :=
  GO.val _ ho rfl rfl hN (fun a hs => by
    have hc : ∀ j v, (T.cells (ly n) x0)[j]? = some v → w.cell? ((ea A (n * T.sz)).add j) = some v := fun j v hv => by
      have hj := (List.getElem?_eq_some_iff.1 hv).1
      rw [T.len] at hj
      rw [ea_add]
      exact (hr w HS).cell hn hj hv
    simp [execOp, Instr.loadAt, Instr.sureAddr, hs.ev hx, run_ld_yes (by rw [T.len]; exact ht) hc]) g
theorem GO.stBox {t tb : TypeId} {x y : Operand} {b off j : Nat} {cs vs : List Value} {v : Value} (cs' : List Value) (HS : St w0 w L) (hj : L[j]? = some (Box b tb cs)) (ho : ops[i]? = some ⟨none, .store t x y, ty, ps, af, none⟩) (hx : ev e x = some (.pointer (some ⟨b, off, none⟩))) (hy : ev e y = some v) (hv : v.cells = vs.toArray)
    (ht : (naB P t && vs.length == 1 || agB P t vs.length) = true) (h1 : vs.all (·.oneCell') = true) (hl : Nat.ble (off + vs.length) cs.length = true) (hc : splice cs off vs = cs')
    (g : ∀ w', St w0 w' (L.set j (Box b tb cs')) → GO P N ops rest e w' Q) : GO P N ops (i :: rest) e w Q := by
  subst hc
  have hsz : (sizeOf t).run P w = .ok vs.length w := by
    rw [Bool.or_eq_true, Bool.and_eq_true, beq_iff_eq] at ht
    rcases ht with ht | ht
    · rw [ht.2]; exact run_size_no ht.1
    · exact run_size_yes ht
  exact GO.skipAct ho rfl rfl (fun a hs => by simp [execOp, Instr.storeAt, Instr.sureAddr, hs.ev hx, hs.ev hy, run_st hv hsz (HS.box hj) (fun u hu => List.all_eq_true.1 h1 u hu) (Nat.le_of_ble_eq_true hl)]) (g _ (HS.setBoxV hj off vs))
theorem GO.stRow {t tb : TypeId} {x y : Operand} {A : Option Addr} {c j n o : Nat} {ly : Nat → T.Lay} {xs : List α} {x0 : α} {vs : List Value} {v : Value} (y0 : α) (HS : St w0 w L) (hj : L[j]? = some (Own T tb A c ly xs)) (hfl : Flat T) (ho : ops[i]? = some ⟨none, .store t x y, ty, ps, af, none⟩) (hx : ev e x = some (.pointer (some (ea A (n * T.sz + o))))) (hy : ev e y = some v) (hv : v.cells = vs.toArray)
    (ht : (naB P t && vs.length == 1 || agB P t vs.length) = true) (h1 : vs.all (·.oneCell') = true) (hn : xs[n]? = some x0) (hl : Nat.ble (o + vs.length) T.sz = true) (hc : T.cells (ly n) y0 = splice (T.cells (ly n) x0) o vs)
    (g : ∀ w', St w0 w' (L.set j (Own T tb A c ly (xs.set n y0))) → GO P N ops rest e w' Q) : GO P N ops (i :: rest) e w Q := by
  have hsz : (sizeOf t).run P w = .ok vs.length w := by
    rw [Bool.or_eq_true, Bool.and_eq_true, beq_iff_eq] at ht
    rcases ht with ht | ht
    · rw [ht.2]; exact run_size_no ht.1
    · exact run_size_yes ht
  obtain ⟨gb, og, cur, hea, hh, hle, hst⟩ := HS.setRowV hj hfl hn (Nat.le_of_ble_eq_true hl) hc
  rw [hea] at hx
  exact GO.skipAct ho rfl rfl (fun a hs => by simp [execOp, Instr.storeAt, Instr.sureAddr, hs.ev hx, hs.ev hy, run_st_row hv hsz hh (fun u hu => List.all_eq_true.1 h1 u hu) hle]) (g _ hst)
theorem GO.make {t el : TypeId} {x y : Operand} {kl kc : IntKind} {m : Int} {z : Value} {bytes : Nat} (z0 : α) (l : T.Lay) (HS : St w0 w L) (hfl : Flat T) (ho : ops[i]? = some ⟨some d, .makeSlice t x y, ty, ps, af, none⟩) (hx : ev e x = some (.int kl m)) (hy : ev e y = some (.int kc m)) (ht : P.underlying t = some (.slice el)) (hinf : (P.info? el).map (fun i => (i.zero, i.size, i.bytes)) = some (some z, T.sz, bytes)) (hz : z.cells = (T.cells l z0).toArray) (hs0 : Nat.blt 0 T.sz = true) (hb0 : Nat.blt 0 bytes = true)
    (h0 : 0 ≤ m) (hm : m.toNat * bytes ≤ 281474976710656) (hN : Nat.blt d N = true)
    (g : ∀ b w', St w0 w' (Own T el (some ⟨b, 0, none⟩) m.toNat (fun _ => l) (List.replicate m.toNat z0) :: L) → GO P N ops rest ((d, .slice (some ⟨b, 0, none⟩) (List.replicate m.toNat z0).length m.toNat) :: e) w' Q) : GO P N ops (i :: rest) e w Q := by
  simp only [List.length_replicate] at g
  obtain ⟨inf, hi, hzz⟩ := Option.map_eq_some_iff.1 hinf
  simp only [Prod.mk.injEq] at hzz
  obtain ⟨hz0, hz1, hz2⟩ := hzz
  have hs0' : 0 < T.sz := Nat.le_of_ble_eq_true hs0
  have hb0' : 0 < bytes := Nat.le_of_ble_eq_true hb0
  have hmm : m.toNat ≤ 281474976710656 := Nat.le_trans (Nat.le_mul_of_pos_right _ hb0') hm
  have hbm : (inf.bytes : Int) * m ≤ 281474976710656 := by
    have h3 : ((m.toNat * bytes : Nat) : Int) ≤ 281474976710656 := by omega
    rw [Int.natCast_mul, Int.toNat_of_nonneg h0, Int.mul_comm] at h3
    rw [hz2]
    exact h3
  have hrun := run_make (P := P) w t el inf z ht hi hz0 kl kc m m h0 (Int.le_refl _) hbm (by omega)
  refine GO.val (w' := w.alloc (.cells (madeCells z.cells (m.toNat * inf.size)) el)) _ ho rfl rfl hN (fun a hs => by simp [execOp, hs.ev hx, hs.ev hy, hrun]) (g w.heap.size _ ?_)
  rw [hz1, hz]
  have hlen : (T.cells l z0).length = T.sz := T.len l z0
  have hcl : (madeCells (T.cells l z0).toArray (m.toNat * T.sz)).toList = rc T (fun _ => l) 0 (List.replicate m.toNat z0) := by
    rw [replicate_get, ← hlen]
    exact toList_madeCells _ (by rw [hlen]; exact hs0') _
  have h1 := (HS.alloc (rc T (fun _ => l) 0 (List.replicate m.toNat z0)) el).boxRow (j := 0) rfl hfl (fun _ => l) (List.replicate m.toNat z0) rfl (by simp; omega)
  rw [← hcl] at h1
  simpa using h1
theorem run_append_roomO {P : Program} (w : World) (t ty e : TypeId) (i : TypeInfo) (ht : P.underlying t = some (.slice e)) (hi : P.info? e = some i) (g o n cap : Nat) (cur : Array Value) (tb : TypeId) (hg : w.heap[g]? = some (.cells cur tb (0, 0)))
    (a : Addr) (m c : Nat) (news : List Value) (hl : news.length = m * i.size) (hnews : ∀ j u, news[j]? = some u → w.cell? (a.add j) = some u) (h1 : ∀ u ∈ news, u.oneCell' = true) (hroom : n + m ≤ cap) (hfit : o + n * i.size + news.length ≤ cur.size) :
    (Builtin.append_ #[t, t] ty #[.slice (some ⟨g, o, none⟩) n cap, .slice (some a) m c]).run P w = .ok (.slice (some ⟨g, o, none⟩) (n + m) cap) (w.setRow g (splice cur.toList (o + n * i.size) news).toArray) := by
  have hld := run_firstCells_some (P := P) w i.size m a m c news hl hnews
  have hsto := run_storeCells_at P g (o + n * i.size) tb news 0 cur w hg (by simpa using hfit) h1
  simp only [Nat.add_zero] at hsto
  simp [Builtin.append_, run_underlying ht, sizeOf, typeInfo, hi, Builtin.lenOf, hroom, hld, addr_off, hsto, splice]
theorem grown_none {w w' : World} {row : Option Nat} (h : w.grownBy w' none) : w.grownBy w' row := ⟨h.os, h.tape, h.output, h.size, fun k hk _ => h.block k hk (by simp)⟩
theorem run_append_o {P : Program} (w : World) (t ty e : TypeId) (i : TypeInfo) (z : Value) (size bytes : Nat) (ht : P.underlying t = some (.slice e)) (hi : P.info? e = some i) (hz : i.zero = some z)
    (hsize : i.size = size) (hby : i.bytes = bytes) (hzs : z.cells.size = size) (hsz : 0 < size) (v : Value) (n : Nat) (xs : List Value) (hown : OR w e size v n xs)
    (a : Addr) (m c : Nat) (news : List Value) (hl : news.length = m * size) (hnews : ∀ j u, news[j]? = some u → w.cell? (a.add j) = some u) (h1 : ∀ u ∈ news, u.oneCell' = true)
    (h63 : n + m ≤ maxLen) (hbytes : (n + m) * bytes ≤ 140737488355328) :
    ∃ v' w', (Builtin.append_ #[t, t] ty #[v, .slice (some a) m c]).run P w = .ok v' w' ∧ OR w' e size v' (n + m) (xs ++ news) ∧ w.grownBy w' v.ownBlock ∧ ∀ k, v'.ownBlock = some k → v.ownBlock = some k ∨ w.heap.size ≤ k := by
  have hxs := hown.1
  rcases hown.2 with ⟨rfl, rfl⟩ | ⟨g, o, cap, cur, rfl, hh, hnc, hcm, hcs, htk⟩
  · have hx : xs = [] := List.eq_nil_of_length_eq_zero (by simpa using hxs)
    subst hx
    obtain ⟨v', w', hr, ho, hg, _, hat⟩ := run_append_own_at (P := P) w 0 t ty e i z size bytes ht hi hz hsize hby hzs hsz _ 0 [] (World.ownsRow_nil _ _ _ _) a m c news hl hnews h1 h63 hbytes (Nat.zero_le _)
    refine ⟨v', w', hr, OR.of ho, hg, fun k hk => ?_⟩
    rcases hat with e | e
    · exact .inl (by rw [← e]; exact hk)
    · rw [e] at hk; exact .inr (Nat.le_of_eq (Option.some.inj hk))
  · by_cases hroom : n + m ≤ cap
    · have hmul : (n + m) * size ≤ cap * size := Nat.mul_le_mul_right _ hroom
      rw [Nat.add_mul] at hmul
      have hcl : cur.toList.length = cur.size := Array.length_toList
      have hfit : o + n * size + news.length ≤ cur.toList.length := by omega
      have hr := run_append_roomO (P := P) w t ty e i ht hi g o n cap cur e hh a m c news (by rw [hsize]; exact hl) hnews h1 hroom (by rw [hsize]; omega)
      rw [hsize] at hr
      refine ⟨_, _, hr, ⟨by rw [List.length_append, hxs, hl, Nat.add_mul], .inr ⟨g, o, cap, _, rfl, setRow_heap w g cur _ e (0, 0) hh, hroom, hcm, ?_, ?_⟩⟩, ⟨rfl, rfl, rfl, by simp, fun k _ hk => setRow_other w g k _ (fun e => hk (by simp [Value.ownBlock, e]))⟩, fun k hk => .inl (by simpa [Value.ownBlock] using hk)⟩
      · rw [List.size_toArray, splice_length hfit, Array.length_toList]; exact hcs
      · show ((splice cur.toList (o + n * size) news).drop o).take ((n + m) * size) = _
        have hdl : n * size ≤ (cur.toList.drop o).length := by rw [List.length_drop]; omega
        rw [splice_drop (by omega), ← htk]
        unfold splice
        exact List.take_left' (by rw [List.length_append, List.length_take, hl, Nat.add_mul]; omega)
    · have hold : ∀ j u, xs[j]? = some u → w.cell? ((⟨g, o, none⟩ : Addr).add j) = some u := by
        intro j u hu
        rcases Nat.eq_zero_or_pos n with h0 | h0
        · subst h0
          have hx : xs = [] := List.eq_nil_of_length_eq_zero (by simpa using hxs)
          subst hx
          simp at hu
        · exact hown.cells h0 j u hu
      obtain ⟨v', w', hr, ho, hg⟩ := run_append_arg_grows (P := P) w t ty e i z size bytes ht hi hz hsize hby hzs hsz ⟨g, o, none⟩ n cap xs hxs hold a m c news hl hnews (by omega) h63 hbytes
      exact ⟨v', w', hr, OR.of ho, grown_none hg, fun k hk => .inr (ho.lt k hk).1⟩
theorem St.appended {el : TypeId} {A A' : Option Addr} {c c' j n' : Nat} {ly : Nat → T.Lay} {xs zs : List α} {w' : World} (HS : St w0 w L) (hj : L[j]? = some (Own T el A c ly xs)) (hfl : Flat T) (hn : n' = zs.length) (hown' : OR w' el T.sz (.slice A' n' c') n' (rc T ly 0 zs))
    (hg : w.grownBy w' (Value.slice A xs.length c).ownBlock) (hat : ∀ k, (Value.slice A' n' c').ownBlock = some k → (Value.slice A xs.length c).ownBlock = some k ∨ w.heap.size ≤ k) : St w0 w' (L.set j (Own T el A' c' ly zs)) := by
  subst hn
  refine HS.upd hj hg.size hg.os hg.tape hg.output (fun q ho2 => ?_)
  obtain ⟨q1, q2, h1, h2, hd, hown2, hb, hs⟩ := ho2
  have hlt : ∀ b', (Value.slice A' zs.length c').ownBlock = some b' → b' < w'.heap.size := fun b' hb' => hown'.lt b' hb'
  refine ⟨fun k' => q k' ∨ (w.heap.size ≤ k' ∧ k' < w'.heap.size), fun k' hk => hk, ⟨fun k' => q1 k' ∨ (w.heap.size ≤ k' ∧ k' < w'.heap.size), fun _ => False, fun k' hk => hk.imp (h1 k') id, fun k' hk => hk.elim, fun _ _ hk => hk, hown', fun k' hk => ?_, SepM.flat hfl _ _ _⟩, fun k' hk hn => hg.block k' hk (fun e => hn ?_)⟩
  · rcases hat k' hk with e | e
    · exact .inl (hb k' e)
    · exact .inr ⟨e, hlt k' hk⟩
  · exact h1 k' (hb k' e.symm)
theorem GO.app1 {t el tb : TypeId} {x y : Operand} {A : Option Addr} {c j jb b : Nat} {ly : Nat → T.Lay} {xs : List α} {z : Value} {bytes : Nat} (y0 : α) (HS : St w0 w L) (hj : L[j]? = some (Own T el A c ly xs)) (hjb : L[jb]? = some (Box b tb (T.cells (ly xs.length) y0))) (hfl : Flat T) (ho : ops[i]? = some ⟨some d, .call { callee := .builtin .append, args := #[x, y], argTypes := #[t, t] }, ty, ps, af, none⟩) (hx : ev e x = some (.slice A xs.length c)) (hy : ev e y = some (.slice (some ⟨b, 0, none⟩) 1 1))
    (ht : P.underlying t = some (.slice el)) (hinf : (P.info? el).map (fun i => (i.zero, i.size, i.bytes)) = some (some z, T.sz, bytes)) (hz : (z.cells.size == T.sz) = true) (hs0 : Nat.blt 0 T.sz = true) (hb0 : Nat.blt 0 bytes = true) (hm : (xs.length + 1) * bytes ≤ 140737488355328) (hN : Nat.blt d N = true)
    (g : ∀ A' c' w', St w0 w' (L.set j (Own T el A' c' ly (xs ++ [y0]))) → GO P N ops rest ((d, .slice A' (xs ++ [y0]).length c') :: e) w' Q) : GO P N ops (i :: rest) e w Q := by
  obtain ⟨inf, hi, hzz⟩ := Option.map_eq_some_iff.1 hinf
  simp only [Prod.mk.injEq] at hzz
  obtain ⟨hz0, hz1, hz2⟩ := hzz
  have hs0' : 0 < T.sz := Nat.le_of_ble_eq_true hs0
  have hb0' : 0 < bytes := Nat.le_of_ble_eq_true hb0
  have hmm : xs.length + 1 ≤ 140737488355328 := Nat.le_trans (Nat.le_mul_of_pos_right _ hb0') hm
  obtain ⟨q, _, ho1⟩ := HS.get hj
  obtain ⟨q1, q2, h1, h2, hd, hown, hb, hs⟩ := ho1
  have hcells : ∀ m u, (T.cells (ly xs.length) y0)[m]? = some u → w.cell? ((⟨b, 0, none⟩ : Addr).add m) = some u := fun m u hu => by
    rw [addr_off, Nat.zero_add]
    exact HS.boxCell hjb hu
  obtain ⟨v', w', hr, hown', hg, hat⟩ := run_append_o (P := P) w t ty el inf z T.sz bytes ht hi hz0 hz1 hz2 (by simpa using hz) hs0' _ _ _ hown ⟨b, 0, none⟩ 1 1 (T.cells (ly xs.length) y0) (by rw [T.len, Nat.one_mul]) hcells (fun u hu => T.one _ _ u hu) (by simp only [maxLen]; omega) hm
  obtain ⟨A', c', rfl⟩ := hown'.slice
  have hlen : xs.length + 1 = (xs ++ [y0]).length := by simp
  have hrc : rc T ly 0 xs ++ T.cells (ly xs.length) y0 = rc T ly 0 (xs ++ [y0]) := by rw [rc_append]; simp [rc]
  rw [hrc, hlen] at hown'
  rw [hlen] at hr
  refine GO.val _ ho rfl rfl hN (fun a hs => by simp only [execOp, resolve, invoke, builtin, Sem.run_bind, Sem.run_pure, Result.andThen_ok, List.map_toArray, List.map_cons, List.map_nil, hs.ev hx, hs.ev hy, hr]) (g A' c' w' ?_)
  exact HS.appended hj hfl rfl hown' hg (by rw [hlen] at hat; exact hat)
end
end Go.Proofs.YtbjfinndngafoaaGreat
