/-
  Maps whose keys and values are any that are told as plain values; arrays under an index that is not told.
-/
import Derived.Test.YtbjfinndngafoaaGreatSlQ
set_option linter.unusedVariables false
set_option linter.unusedSimpArgs false
set_option linter.unusedSectionVars false
namespace Go.Proofs.YtbjfinndngafoaaGreat
open Go.RowKit
section
variable {κ ν : Type} [DecidableEq κ]
def gget : List (κ × ν) → κ → Option ν
  | [], _ => none
  | p :: r, k => if k = p.1 then some p.2 else gget r k
def gput : List (κ × ν) → κ → ν → List (κ × ν)
  | [], k, v => [(k, v)]
  | p :: r, k, v => if k = p.1 then (k, v) :: r else p :: gput r k v
def gpos : List (κ × ν) → κ → Nat → Option (Nat × ν)
  | [], _, _ => none
  | p :: r, k, i => if k = p.1 then some (i, p.2) else gpos r k (i + 1)
theorem gpos_none {k : κ} : ∀ {m : List (κ × ν)} {i : Nat}, gpos m k i = none → gget m k = none ∧ ∀ v, gput m k v = m ++ [(k, v)]
  | [], _, _ => ⟨rfl, fun _ => rfl⟩
  | p :: r, i, h => by
    unfold gpos at h
    by_cases hk : k = p.1
    · rw [if_pos hk] at h; cases h
    · rw [if_neg hk] at h
      obtain ⟨h1, h2⟩ := gpos_none h
      exact ⟨by unfold gget; rw [if_neg hk, h1], fun v => by unfold gput; rw [if_neg hk, h2 v]; rfl⟩
theorem gpos_some {k : κ} {n : Nat} {v0 : ν} : ∀ {m : List (κ × ν)} {i : Nat}, gpos m k i = some (n, v0) → ∃ j, n = i + j ∧ m[j]? = some (k, v0) ∧ gget m k = some v0 ∧ ∀ v, gput m k v = m.set j (k, v)
  | [], _, h => by cases h
  | p :: r, i, h => by
    unfold gpos at h
    by_cases hk : k = p.1
    · rw [if_pos hk] at h
      injection h with h
      injection h with h1 h2
      subst h1; subst h2
      exact ⟨0, rfl, by rw [hk]; rfl, by unfold gget; rw [if_pos hk], fun v => by unfold gput; rw [if_pos hk]; rfl⟩
    · rw [if_neg hk] at h
      obtain ⟨j, h1, h2, h3, h4⟩ := gpos_some h
      exact ⟨j + 1, by omega, by simpa using h2, by unfold gget; rw [if_neg hk, h3], fun v => by unfold gput; rw [if_neg hk, h4 v]; rfl⟩
def gpairs (ke : κ → Value) (ve : ν → Value) (es : List MapEntry) (m : List (κ × ν)) : Prop := es.map (fun x => (x.key, x.val)) = m.map (fun p => (ke p.1, ve p.2))
def MapG (b : Nat) (ke : κ → Value) (ve : ν → Value) (m : List (κ × ν)) : HObj where
  P := fun w q => q b ∧ ∃ es clock, w.heap[b]? = some (.map es clock) ∧ gpairs ke ve es.toList m
  loc := fun h hk => ⟨h.1, by obtain ⟨es, c, h1, h2⟩ := h.2; exact ⟨es, c, (hk b h.1).trans h1, h2⟩⟩
  more := fun h hq => ⟨hq b h.1, h.2⟩
structure KeyOk (P : Program) (kt : TypeId) (ke : κ → Value) : Prop where
  eq : ∀ a b w, (Op.equal kt (ke a) (ke b)).run P w = .ok (decide (a = b)) w
  now : ∃ d, P.underlying kt = some d ∧ ((∀ a b, Instr.sameNow d (ke a) (ke b) = none) ∨ (∀ a b, Instr.sameNow d (ke a) (ke b) = some (decide (a = b))))
  check : ∀ em a w, (Instr.checkKey em 10000 kt (ke a)).run P w = .ok () w
  stays : ∀ a w, (Instr.keyThatStays (ke a) (ke a)).run P w = .ok (ke a) w
variable {P : Program} {kt : TypeId} {ke : κ → Value} {ve : ν → Value} {w0 w : World} {L : List HObj} {b j : Nat} {m : List (κ × ν)}
theorem gpairs_cons {e : MapEntry} {es : List MapEntry} {p : κ × ν} (h : gpairs ke ve (e :: es) (p :: m)) : e.key = ke p.1 ∧ e.val = ve p.2 ∧ gpairs ke ve es m := by
  unfold gpairs at h
  simp only [List.map_cons, List.cons.injEq, Prod.mk.injEq] at h
  exact ⟨h.1.1, h.1.2, h.2⟩
theorem findNow_pos {d : TypeDesc} (hn : ∀ a b, Instr.sameNow d (ke a) (ke b) = some (decide (a = b))) {k : κ} : ∀ {es : List MapEntry} {m : List (κ × ν)} {i : Nat}, gpairs ke ve es m → Instr.findNow d (ke k) es i = some ((gpos m k i).map fun p => (p.1, ve p.2))
  | [], [], _, _ => rfl
  | [], _ :: _, _, h => by cases h
  | _ :: _, [], _, h => by cases h
  | e :: es, p :: m, i, h => by
    obtain ⟨h1, h2, h3⟩ := gpairs_cons h
    unfold Instr.findNow gpos
    rw [h1, hn]
    by_cases hk : k = p.1
    · rw [decide_eq_true hk, if_pos hk, h2]; rfl
    · rw [decide_eq_false hk, if_neg hk]; exact findNow_pos hn h3
theorem findAsk_pos (heq : ∀ a b w, (Op.equal kt (ke a) (ke b)).run P w = .ok (decide (a = b)) w) (w1 : World) {k : κ} : ∀ {es : List MapEntry} {m : List (κ × ν)} {i : Nat}, gpairs ke ve es m → (Instr.findAsking kt (ke k) es i).run P w1 = .ok ((gpos m k i).map fun p => (p.1, ve p.2)) w1
  | [], [], _, _ => rfl
  | [], _ :: _, _, h => by cases h
  | _ :: _, [], _, h => by cases h
  | e :: es, p :: m, i, h => by
    obtain ⟨h1, h2, h3⟩ := gpairs_cons h
    unfold Instr.findAsking gpos
    rw [h1]
    by_cases hk : k = p.1
    · simp [heq, hk, h2]
    · have ih := findAsk_pos heq w1 (k := k) (i := i + 1) h3
      simp [heq, hk, ih]
theorem findKey_pos (K : KeyOk P kt ke) {k : κ} {es : List MapEntry} (h : gpairs ke ve es m) : (Instr.findKey kt (ke k) es).run P w = .ok ((gpos m k 0).map fun p => (p.1, ve p.2)) w := by
  obtain ⟨d, hd, hn⟩ := K.now
  unfold Instr.findKey
  rcases hn with hn | hn
  · cases es with
    | nil =>
      cases m with
      | nil => simp [run_underlying hd, Instr.findNow, gpos]
      | cons p m => cases h
    | cons e es =>
      cases m with
      | nil => cases h
      | cons p m =>
        have h1 := (gpairs_cons h).1
        have h2 : Instr.findNow d (ke k) (e :: es) 0 = none := by unfold Instr.findNow; rw [h1, hn]
        have h3 := findAsk_pos K.eq w (k := k) (i := 0) h
        simp [run_underlying hd, h2, h3]
  · have h2 := findNow_pos (i := 0) hn (k := k) h
    simp [run_underlying hd, h2]
theorem St.newMapG (h : St w0 w L) (ke : κ → Value) (ve : ν → Value) : St w0 (w.alloc (.map #[] 0)) (MapG w.heap.size ke ve [] :: L) :=
  h.cons (by simp) rfl rfl rfl (fun k hk => Below.heap_alloc w _ k hk) ⟨by simp, #[], 0, heap_alloc_new w _, rfl⟩
theorem St.mapG (h : St w0 w L) (hj : L[j]? = some (MapG b ke ve m)) : ∃ es clock, w.heap[b]? = some (.map es clock) ∧ gpairs ke ve es.toList m := by
  obtain ⟨q, _, h1, h2⟩ := h.get hj
  exact h2
variable {N : Nat} {e : Env} {Q : Act → World → Prop} {ops : Array Oper} {i d : Nat} {rest : List Nat} {ty : TypeId} {ps : String} {af : Array Edge} {t el : TypeId} {x y z : Operand} {key : κ} {v : ν}
theorem GO.newMapG (ke : κ → Value) (ve : ν → Value) (HS : St w0 w L) (ho : ops[i]? = some ⟨some d, .makeMap t none, ty, ps, af, none⟩) (hN : Nat.blt d N = true)
    (g : ∀ b w', St w0 w' (MapG b ke ve ([] : List (κ × ν)) :: L) → GO P N ops rest ((d, .map (some b)) :: e) w' Q) : GO P N ops (i :: rest) e w Q :=
  GO.val (.map (some w.heap.size)) ho rfl rfl hN (fun a hs => by simp [execOp, Instr.makeMap]) (g _ _ (HS.newMapG ke ve))
theorem run_lookG (z0 : ν) (K : KeyOk P kt ke) (HS : St w0 w L) (hj : L[j]? = some (MapG b ke ve m)) (ht : P.underlying t = some (.map kt el)) (hz : (P.info? el).map (·.zero) = some (some (ve z0))) (cm : Bool) :
    (Instr.lookup t (.map (some b)) (ke key) cm).run P w = .ok (bif cm then .tuple #[ve ((gget m key).getD z0), .bool (gget m key).isSome] else ve ((gget m key).getD z0)) w := by
  obtain ⟨es, clock, hb, hm⟩ := HS.mapG hj
  obtain ⟨inf, hi, hz'⟩ := Option.map_eq_some_iff.1 hz
  have hck := K.check es.isEmpty key w
  have hzz : (zeroValue el).run P w = .ok (ve z0) w := by simp [zeroValue, typeInfo, hi, hz']
  have hf := findKey_pos (w := w) K (k := key) hm
  cases hp : gpos m key 0 with
  | none =>
    have hg := (gpos_none hp).1
    rw [hp] at hf
    cases cm <;> simp [Instr.lookup, run_underlying ht, MapKept.run_getObj_map hb, hck, hf, hzz, hg]
  | some p =>
    obtain ⟨n, v0⟩ := p
    obtain ⟨_, _, _, hg, _⟩ := gpos_some hp
    rw [hp] at hf
    cases cm <;> simp [Instr.lookup, run_underlying ht, MapKept.run_getObj_map hb, hck, hf, hg]
theorem GO.lookG (z0 : ν) (key : κ) {y' : Value} (K : KeyOk P kt ke) (HS : St w0 w L) (hj : L[j]? = some (MapG b ke ve m)) (ho : ops[i]? = some ⟨some d, .lookup t x y false, ty, ps, af, none⟩) (hx : ev e x = some (.map (some b))) (hy : ev e y = some (ke key)) (ht : P.underlying t = some (.map kt el)) (hz : (P.info? el).map (·.zero) = some (some (ve z0))) (hN : Nat.blt d N = true)
    (hv : ve ((gget m key).getD z0) = y') (g : GO P N ops rest ((d, y') :: e) w Q) : GO P N ops (i :: rest) e w Q :=
  GO.val _ ho rfl rfl hN (fun a hs => by simp [execOp, hs.ev hx, hs.ev hy, run_lookG z0 K HS hj ht hz false, hv]) g
theorem run_putG (K : KeyOk P kt ke) (HS : St w0 w L) (hj : L[j]? = some (MapG b ke ve m)) (ht : P.underlying t = some (.map kt el)) (key : κ) (v : ν) :
    ∃ w', (Instr.mapUpdate t (.map (some b)) (ke key) (ve v)).run P w = .ok () w' ∧ St w0 w' (L.set j (MapG b ke ve (gput m key v))) := by
  obtain ⟨es, clock, hb, hm⟩ := HS.mapG hj
  have hck := K.check false key w
  have hup : ∀ (o : Obj), (∃ es' c', o = .map es' c' ∧ gpairs ke ve es'.toList (gput m key v)) → St w0 { w with heap := w.heap.setIfInBounds b o } (L.set j (MapG b ke ve (gput m key v))) := fun o ho => by
    obtain ⟨es', c', rfl, hm'⟩ := ho
    obtain ⟨hs1, hs2⟩ := MapKept.heap_set (w := w) (o' := .map es' c') hb
    refine HS.upd hj (by simp) rfl rfl rfl (fun q hq => ⟨q, fun k hk => .inl hk, ⟨hq.1, es', c', hs1, hm'⟩, fun k hk hn => hs2 k (fun e => hn (by rw [e]; exact hq.1))⟩)
  have hf := findKey_pos (w := w) K (k := key) hm
  cases hp : gpos m key 0 with
  | none =>
    have hg := (gpos_none hp).2 v
    rw [hp] at hf
    refine ⟨{ w with heap := w.heap.setIfInBounds b (.map (es.push ⟨ke key, ve v, clock⟩) (clock + 1)) }, ?_, hup _ ⟨_, _, rfl, ?_⟩⟩
    · simp [Instr.mapUpdate, run_underlying ht, MapKept.run_getObj_map hb, hck, hf, MapKept.run_setObj_map _ hb]
    · rw [hg]
      unfold gpairs at hm ⊢
      simp [hm]
  | some p =>
    obtain ⟨n, v0⟩ := p
    obtain ⟨n', h1, h2, _, h4⟩ := gpos_some hp
    rw [Nat.zero_add] at h1
    subst h1
    rw [hp] at hf
    have hst := K.stays key w
    have hlen : es.toList.length = m.length := by have := congrArg List.length hm; simpa using this
    have hlt : n < m.length := (List.getElem?_eq_some_iff.1 h2).1
    obtain ⟨e0, he0⟩ : ∃ e0, es[n]? = some e0 := ⟨es[n]'(by rw [← Array.length_toList, hlen]; exact hlt), Array.getElem?_eq_getElem _⟩
    have hk0 : e0.key = ke key := by
      have h5 := congrArg (fun l : List (Value × Value) => l[n]?) hm
      have he0' : es.toList[n]? = some e0 := by rw [Array.getElem?_toList]; exact he0
      simp only [List.getElem?_map, he0', h2, Option.map_some, Option.some.injEq, Prod.mk.injEq] at h5
      exact h5.1
    refine ⟨{ w with heap := w.heap.setIfInBounds b (.map (es.modify n fun e => { e with key := ke key, val := ve v }) clock) }, ?_, hup _ ⟨_, _, rfl, ?_⟩⟩
    · simp [Instr.mapUpdate, run_underlying ht, MapKept.run_getObj_map hb, hck, hf, he0, hk0, hst, MapKept.run_setObj_map _ hb]
    · rw [h4 v, Array.toList_modify]
      unfold gpairs at hm ⊢
      apply List.ext_getElem?
      intro k
      have h5 := congrArg (fun l : List (Value × Value) => l[k]?) hm
      simp only [List.getElem?_map] at h5 ⊢
      rw [List.getElem?_modify]
      by_cases hkn : n = k
      · subst hkn
        rw [List.getElem?_set_self hlt]
        have he0' : es.toList[n]? = some e0 := by rw [Array.getElem?_toList]; exact he0
        simp [he0']
      · rw [List.getElem?_set_ne hkn]
        simp only [hkn, if_false]
        simpa using h5
theorem GO.putMG (key : κ) (v : ν) (K : KeyOk P kt ke) (HS : St w0 w L) (hj : L[j]? = some (MapG b ke ve m)) (ho : ops[i]? = some ⟨none, .mapUpdate t x y z, ty, ps, af, none⟩) (hx : ev e x = some (.map (some b))) (hy : ev e y = some (ke key)) (hv : ev e z = some (ve v)) (ht : P.underlying t = some (.map kt el))
    (g : ∀ w', St w0 w' (L.set j (MapG b ke ve (gput m key v))) → GO P N ops rest e w' Q) : GO P N ops (i :: rest) e w Q := by
  obtain ⟨w', h1, h2⟩ := run_putG K HS hj ht key v
  exact GO.skipAct ho rfl rfl (fun a hs => by simp [execOp, hs.ev hx, hs.ev hy, hs.ev hv, h1]) (g w' h2)
end
section
variable {P : Program} {N : Nat} {e : Env} {w0 w : World} {L : List HObj} {Q : Act → World → Prop} {ops : Array Oper} {i d : Nat} {rest : List Nat} {ty : TypeId} {ps : String} {af : Array Edge} {t el tb : TypeId} {x y : Operand} {b j o sz len : Nat} {m : Int} {kd : IntKind} {cs vs : List Value}
def se {α : Type} (i m : Int) (v c : α) : α := if m = i then v else c
theorem four {p : Nat → Prop} (h0 : p 0) (h1 : p 1) (h2 : p 2) (h3 : p 3) : ∀ i, i < 4 → p i
  | 0, _ => h0 | 1, _ => h1 | 2, _ => h2 | 3, _ => h3 | n + 4, h => absurd h (by omega)
theorem GO.ixW (ho : ops[i]? = some ⟨some d, .indexAddr t x y, ty, ps, af, none⟩) (hx : ev e x = some (.pointer (some ⟨b, o, none⟩))) (hy : ev e y = some (.int kd m)) (ht : P.underlying t = some (.array len el)) (hsz : (P.info? el).map (·.size) = some sz)
    (c : 0 ≤ m ∧ m < (len : Int)) (hN : Nat.blt d N = true) (g : GO P N ops rest ((d, .pointer (some ⟨b, o + m.toNat * sz, none⟩)) :: e) w Q) : GO P N ops (i :: rest) e w Q := by
  refine GO.val _ ho rfl rfl hN (fun a hs => ?_) g
  obtain ⟨inf, hi, hi2⟩ := Option.map_eq_some_iff.1 hsz
  simp [execOp, hs.ev hx, hs.ev hy, Instr.indexAt, Instr.sureAddr, asIntOf, run_underlying ht, c.1, c.2, sizeOf, typeInfo, hi, hi2, addr_off]
theorem adW (b o k f : Nat) : (⟨b, o + k, none⟩ : Addr).add f = ⟨b, o + f + k, none⟩ := by rw [addr_off, Nat.add_right_comm]
def col (cs : List Value) (o sz : Nat) (n : Nat) : List Value := (List.range n).map fun i => cs.getD (o + i * sz) undef
theorem col_get {n k : Nat} (hk : k < n) : (col cs o sz n)[k]? = some (cs.getD (o + k * sz) undef) := by
  unfold col
  rw [List.getElem?_map, List.getElem?_range hk]; rfl
theorem cell_of_col {n k : Nat} {u : Value} (hk : k < n) (hu : (col cs o sz n)[k]? = some u) (hne : u ≠ undef) : cs[o + k * sz]? = some u := by
  rw [col_get hk] at hu
  injection hu with hu
  rw [List.getD_eq_getElem?_getD] at hu
  cases hc : cs[o + k * sz]? with
  | none => rw [hc] at hu; exact absurd hu.symm hne
  | some v => rw [hc] at hu; rw [← hu]; rfl
theorem GO.ldW (l : List Int) {kk : IntKind} (HS : St w0 w L) (hj : L[j]? = some (Box b tb cs)) (ho : ops[i]? = some ⟨some d, .load t x, ty, ps, af, none⟩) (hx : ev e x = some (.pointer (some ⟨b, o + m.toNat * sz, none⟩))) (c : 0 ≤ m ∧ m < (len : Int)) (hn : l.length = len) (hl : col cs o sz l.length = l.map (Value.int kk)) (ht : naB P t = true) (hN : Nat.blt d N = true)
    (g : GO P N ops rest ((d, .int kk (l.getD m.toNat 0)) :: e) w Q) : GO P N ops (i :: rest) e w Q := by
  have hm : m.toNat < l.length := by omega
  exact GO.ldBox HS hj ho hx (cell_of_col hm (by rw [hl, List.getElem?_map, getD_some (d := (0 : Int)) hm]; rfl) (by simp [undef])) ht hN g
theorem GO.stW {v : Value} (F : Int → List Value) (HS : St w0 w L) (hj : L[j]? = some (Box b tb cs)) (ho : ops[i]? = some ⟨none, .store t x y, ty, ps, af, none⟩) (hx : ev e x = some (.pointer (some ⟨b, o + m.toNat * sz, none⟩))) (hy : ev e y = some v) (hv : v.cells = vs.toArray) (c : 0 ≤ m ∧ m < (len : Int))
    (ht : (naB P t && vs.length == 1 || agB P t vs.length) = true) (h1 : vs.all (·.oneCell') = true) (hl : (Nat.ble (o + len * sz) cs.length && Nat.ble vs.length sz) = true) (hF : ∀ i : Nat, i < len → splice cs (o + i * sz) vs = F (i : Int))
    (g : ∀ w', St w0 w' (L.set j (Box b tb (F m))) → GO P N ops rest e w' Q) : GO P N ops (i :: rest) e w Q := by
  rw [Bool.and_eq_true] at hl
  have h2 := Nat.le_of_ble_eq_true hl.1
  have h3 := Nat.le_of_ble_eq_true hl.2
  have hm : m.toNat < len := by omega
  have hmm : (m.toNat + 1) * sz ≤ len * sz := Nat.mul_le_mul_right _ hm
  rw [Nat.succ_mul] at hmm
  have hc := hF m.toNat hm
  rw [Int.toNat_of_nonneg c.1] at hc
  exact GO.stBox (F m) HS hj ho hx hy hv ht h1 (Nat.ble_eq_true_of_le (by omega)) hc g
theorem GO.ixArrA {kd' : IntKind} (F : Nat → List Value) (ho : ops[i]? = some ⟨some d, .index t x y, ty, ps, af, none⟩) (hx : ev e x = some (.agg cs.toArray)) (hy : ev e y = some (.int kd' m)) (ht : P.underlying t = some (.array len el)) (ha : agB P el sz = true) (c : 0 ≤ m ∧ m < (len : Int)) (hF : ∀ i, i < len → (cs.drop (i * sz)).take sz = F i) (hN : Nat.blt d N = true)
    (g : GO P N ops rest ((d, .agg (F m.toNat).toArray) :: e) w Q) : GO P N ops (i :: rest) e w Q :=
  GO.val _ ho rfl rfl hN (fun a hs => by
    have hm : m.toNat < len := by omega
    have h1 := run_size_yes (w := w) ha
    have h2 := run_isAgg_yes (w := w) ha
    have h3 : cs.toArray.extract (m.toNat * sz) (m.toNat * sz + sz) = (F m.toNat).toArray := by
      rw [← hF m.toNat hm, List.extract_toArray, List.extract_eq_take_drop, Nat.add_sub_cancel_left]
    simp [execOp, hs.ev hx, hs.ev hy, Instr.index, asIntOf, run_underlying ht, c.1, c.2, h1, part, h2, hF m.toNat hm]) g
end
section
variable {α : Type} {S : Ty α} {P : Program} {N : Nat} {e : Env} {w0 w : World} {L : List HObj} {Q : Act → World → Prop} {ops : Array Oper} {i d : Nat} {rest : List Nat} {ty : TypeId} {ps : String} {af : Array Edge}
theorem GO.stSub {t tb u : TypeId} {x y : Operand} {A : Option Addr} {c k n o : Nat} {ly : Nat → SLay S.Lay} {xs : List (List α)} {x0 : α} {vs : List Value} {v : Value} (y0 : α) (HS : St w0 w (Own (Ty.slice u S) tb A c ly xs :: L)) (hfl : Flat S) (ho : ops[i]? = some ⟨none, .store t x y, ty, ps, af, none⟩) (hx : ev e x = some (.pointer (some (ea (ly k).A (n * S.sz + o))))) (hy : ev e y = some v) (hv : v.cells = vs.toArray)
    (ht : (naB P t && vs.length == 1 || agB P t vs.length) = true) (h1 : vs.all (·.oneCell') = true) (hk : k < xs.length) (hn : (xs.getD k [])[n]? = some x0) (hl : Nat.ble (o + vs.length) S.sz = true) (hc : S.cells ((ly k).ly n) y0 = splice (S.cells ((ly k).ly n) x0) o vs)
    (g : ∀ w', St w0 w' (Own (Ty.slice u S) tb A c ly (xs.set k ((xs.getD k []).set n y0)) :: L) → GO P N ops rest e w' Q) : GO P N ops (i :: rest) e w Q := by
  have hk' := getD_some (d := []) hk
  have HF := HS.focusO Fld.id hk'
  refine GO.stRow (j := 0) y0 HF rfl hfl ho hx hy hv ht h1 hn hl hc (fun w' h => g w' ?_)
  exact St.unfocusO Fld.id hk' (by show [Value.slice _ _ _] = [Value.slice _ _ _]; rw [show (Fld.id.set (xs.getD k []) ((xs.getD k []).set n y0)) = (xs.getD k []).set n y0 from rfl, List.length_set]) h
end
section
variable {P : Program} {kt el : TypeId}
theorem keyInt {k : IntKind} (hd : P.underlying kt = some (.int k)) : KeyOk P kt (Value.int k) where
  eq := fun a b w => by
    have h1 := run_eqInt (w := w) (u := a) (v := b) hd 9999
    have h2 : (a == b) = decide (a = b) := rfl
    rw [← h2]; exact h1
  now := ⟨_, hd, .inr fun a b => by
    have h2 : (a == b) = decide (a = b) := rfl
    simp [Instr.sameNow, h2]⟩
  check := fun em a w => MapKept.run_checkKey hd (by simp [MapKept.IsKey]) em 9999
  stays := fun a w => MapKept.run_keyThatStays (d := .int k) (by simp [MapKept.IsKey])
theorem keyArr2 {κ : Type} [DecidableEq κ] {p q : κ → Int} {k : IntKind} {ke : κ → Value} {inf : TypeInfo} (hinj : ∀ a b, p a = p b → q a = q b → a = b) (hke : ∀ a, ke a = .agg [.int k (p a), .int k (q a)].toArray) (hu : P.underlying kt = some (.array 2 el)) (hi : P.info? el = some inf) (hC : P.cellsOf el = 1) (te : P.underlying el = some (.int k)) (ne : naB P el = true) : KeyOk P kt ke where
  eq := fun a b w => by
    rw [hke, hke]
    show (Op.equalIn (9999 + 1) kt _ _).run P w = _
    rw [run_equalIn_array (w := w) 9999 _ _ hu hi, hC]
    have e : (9999 : Nat) = 9998 + 1 := rfl
    rw [e]
    by_cases h0 : p a = p b
    · by_cases h1 : q a = q b
      · have := hinj a b h0 h1
        subst this
        simp [Op.eqItems, List.range_succ, part, run_isAgg_no ne, run_eqInt te]
      · have : a ≠ b := fun h => h1 (by rw [h])
        simp [Op.eqItems, List.range_succ, part, h0, h1, this, run_isAgg_no ne, run_eqInt te]
    · have : a ≠ b := fun h => h0 (by rw [h])
      simp [Op.eqItems, List.range_succ, part, h0, this, run_isAgg_no ne, run_eqInt te]
  now := ⟨_, hu, .inl fun a b => by rw [hke, hke]; rfl⟩
  check := fun em a w => by
    rw [hke]
    have h1 : ∀ v : Int, (Instr.checkKey em 9999 el (.int k v)).run P w = .ok () w := fun v => MapKept.run_checkKey te (by simp [MapKept.IsKey]) em 9998
    have h2 := run_size_no (w := w) ne
    unfold Instr.checkKey
    have h3 : List.range' 0 2 = [0, 1] := rfl
    simp [run_underlying hu, part, run_isAgg_no ne, h1, h2, h3]
  stays := fun a w => by
    rw [hke]
    simp [Instr.keyThatStays, Instr.sameBits]
end
section
variable {P : Program} {N : Nat} {e : Env} {w0 w : World} {L L' : List HObj} {Q : Act → World → Prop} {ops : Array Oper} {i d : Nat} {rest : List Nat} {ty : TypeId} {ps : String} {af : Array Edge} {t t' el : TypeId} {x y : Operand} {A : Option Addr} {v : Bool}
theorem run_eqNP {dp : Nat} (ht : P.underlying t = some (.pointer el)) : (Op.equalIn (dp + 1) t (.pointer A) (.pointer none)).run P w = .ok A.isNone w := by
  unfold Op.equalIn
  cases A <;> simp [run_underlying ht]
theorem GO.eqlNP (ho : ops[i]? = some ⟨some d, .binOp .eql t x y t', ty, ps, af, none⟩) (hx : ev e x = some (.pointer A)) (hy : ev e y = some (.pointer none)) (hv : A.isNone = v) (ht : P.underlying t = some (.pointer el)) (hN : Nat.blt d N = true)
    (g : GO P N ops rest ((d, .bool v) :: e) w Q) : GO P N ops (i :: rest) e w Q :=
  GO.val _ ho rfl rfl hN (fun a hs => by
    have h1 : (Op.equal t (.pointer A) (.pointer none)).run P w = .ok v w := by rw [← hv]; exact run_eqNP (dp := 9999) ht
    simp [execOp, hs.ev hx, hs.ev hy, eqGuard, binOp, h1]) g
def Many (l : List HObj) : HObj where
  P := fun w q => Sep l w q
  loc := fun h hk => h.loc hk
  more := fun h hk => h.more hk
def OptH {α : Type} (r : Option α) (F : α → List HObj) : HObj := match r with
  | none => Emp
  | some x => Many (F x)
def optC {α β : Type} (r : Option α) (a : Option β) (f : α → Option β) : Option β := match r with
  | none => a
  | some x => f x
theorem optC_elim {α β : Type} {r : Option α} {a : Option β} {f : α → Option β} {z : β} (h : optC r a f = some z) : (r = none ∧ a = some z) ∨ ∃ x, r = some x ∧ f x = some z := by
  cases r with
  | none => exact .inl ⟨rfl, h⟩
  | some x => exact .inr ⟨x, rfl, h⟩
theorem Sep.many : ∀ {l : List HObj} {p : Nat → Prop}, Sep (l ++ L) w p → Sep (Many l :: L) w p
  | [], p, h => ⟨fun _ => False, p, fun _ h => h.elim, fun _ h => h, fun _ h => h.elim, trivial, h⟩
  | o :: l, p, ⟨q, r, hq, hr, hd, ho, hs⟩ => by
    obtain ⟨q1, r1, hq1, hr1, hd1, ho1, hs1⟩ := Sep.many hs
    refine ⟨fun k => q k ∨ q1 k, r1, fun k hk => hk.elim (hq k) (fun h => hr k (hq1 k h)), fun k hk => hr k (hr1 k hk), fun k hk hn => ?_, ⟨q, q1, fun k hk => .inl hk, fun k hk => .inr hk, fun k hk hn => hd k hk (hq1 k hn), ho, ho1⟩, hs1⟩
    rcases hk with hk | hk
    · exact hd k hk (hr1 k hn)
    · exact hd1 k hk hn
theorem Sep.unmany : ∀ {l : List HObj} {p : Nat → Prop}, Sep (Many l :: L) w p → Sep (l ++ L) w p
  | [], p, ⟨q, r, hq, hr, hd, ho, hs⟩ => hs.more hr
  | o :: l, p, ⟨q, r, hq, hr, hd, ⟨q0, q1, h0, h1, hdd, ho, hl⟩, hs⟩ => by
    have := Sep.unmany (p := fun k => q1 k ∨ r k) ⟨q1, r, fun k hk => .inl hk, fun k hk => .inr hk, fun k hk hn => hd k (h1 k hk) hn, hl, hs⟩
    refine ⟨q0, fun k => q1 k ∨ r k, fun k hk => hq k (h0 k hk), fun k hk => hk.elim (fun h => hq k (h1 k h)) (hr k), fun k hk hn => ?_, ho, this⟩
    rcases hn with hn | hn
    · exact hdd k hk hn
    · exact hd k (h0 k hk) hn
theorem St.opt {α : Type} {F : α → List HObj} (x : α) (HS : St w0 w L) (h : L = F x ++ L') : St w0 w (OptH (some x) F :: L') := by
  subst h
  exact ⟨HS.below, HS.sep.many⟩
theorem St.unopt {α : Type} {F : α → List HObj} {x : α} (HS : St w0 w (OptH (some x) F :: L)) : St w0 w (F x ++ L) := ⟨HS.below, Sep.unmany HS.sep⟩
end
section
variable {α : Type} {w0 w : World} {L : List HObj}
def Part {β : Type} (T : Ty β) (ly : Nat → T.Lay) (i : Nat) (xs : List β) : HObj where
  P := fun w q => SepM T w ly i xs q
  loc := fun h hk => h.loc hk
  more := fun h hk => h.more hk
theorem St.part0 {β : Type} {T : Ty β} (n : Nat) (ly : Nat → T.Lay) (HS : St w0 w L) : St w0 w (Part T ly n [] :: L) :=
  ⟨HS.below, fun _ => False, fun k => w0.heap.size ≤ k ∧ k < w.heap.size, fun _ h => h.elim, fun _ h => h, fun _ h => h.elim, trivial, HS.sep⟩
theorem St.partC {S : Ty α} {u : TypeId} {ly : Nat → SLay S.Lay} {i : Nat} {A : Option Addr} {c : Nat} {y : Nat → S.Lay} {xs : List (List α)} {x : List α} (HS : St w0 w (Part (Ty.slice u S) ly (i + 1) xs :: Own S u A c y x :: L)) (h : ly i = ⟨A, c, y⟩ := by rfl) : St w0 w (Part (Ty.slice u S) ly i (x :: xs) :: L) := by
  obtain ⟨hb, q, r, hq, hr, hd, ho, q2, r2, hq2, hr2, hd2, ho2, hs2⟩ := HS
  refine ⟨hb, fun k => q k ∨ q2 k, r2, fun k hk => hk.elim (hq k) (fun h => hr k (hq2 k h)), fun k hk => hr k (hr2 k hk), fun k hk hn => ?_, ⟨q2, q, fun k hk => .inr hk, fun k hk => .inl hk, fun k hk hn => hd k hn (hq2 k hk), ?_, ho⟩, hs2⟩
  · rcases hk with hk | hk
    · exact hd k hk (hr2 k hn)
    · exact hd2 k hk hn
  · rw [h]; exact ho2
theorem exLay {β : Type} {T : Ty β} {t : TypeId} {A : Option Addr} {c : Nat} {ly : Nat → T.Lay} {xs : List β} (HS : St w0 w (Own T t A c ly xs :: L)) : ∃ y : Nat → T.Lay, St w0 w (Own T t A c y xs :: L) := ⟨ly, HS⟩
theorem St.partB {β : Type} {T : Ty β} {t : TypeId} {ly : Nat → T.Lay} {b : Nat} {cs : List Value} {xs : List β} (HS : St w0 w (Part T ly 0 xs :: Box b t cs :: L)) (hc : rc T ly 0 xs = cs) (hm : xs.length ≤ 9223372036854775807) : St w0 w (Own T t (some ⟨b, 0, none⟩) xs.length ly xs :: L) := by
  obtain ⟨hb, q, r, hq, hr, hd, ho, q2, r2, hq2, hr2, hd2, ho2, hs2⟩ := HS
  refine ⟨hb, fun k => q k ∨ k = b, r2, fun k hk => hk.elim (hq k) (fun h => hr k (hq2 k (h ▸ ho2.1))), fun k hk => hr k (hr2 k hk), fun k hk hn => ?_, ⟨fun k => k = b, q, fun k hk => .inr hk, fun k hk => .inl hk, fun k hk hn => hd k hn (hq2 k (hk ▸ ho2.1)), ?_, fun k hk => ?_, ho⟩, hs2⟩
  · rcases hk with hk | hk
    · exact hd k hk (hr2 k hn)
    · exact hd2 k (hk ▸ ho2.1) hn
  · refine ⟨rc_length _ _, .inr ⟨b, 0, xs.length, cs.toArray, rfl, ho2.2, Nat.le_refl _, by simp only [maxLen]; omega, ?_, ?_⟩⟩
    · rw [← hc]; simp [rc_length]
    · rw [← hc]
      simp only [List.toList_toArray, List.drop_zero]
      rw [List.take_of_length_le (by rw [rc_length]; exact Nat.le_refl _)]
  · simp [Value.ownBlock] at hk
    exact hk.symm
end
end Go.Proofs.YtbjfinndngafoaaGreat
