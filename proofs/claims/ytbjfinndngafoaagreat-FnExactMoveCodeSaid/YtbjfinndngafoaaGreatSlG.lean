/-
  More of the operations: shifts, min and max, arrays behind pointers, slice expressions, copy.
-/
import Derived.Test.YtbjfinndngafoaaGreatSlF
import Derived.Laws.Cover3
set_option linter.unusedVariables false
set_option linter.unusedSimpArgs false
namespace Go.Proofs.YtbjfinndngafoaaGreat
open Go.RowKit
section
variable {P : Program} {N : Nat} {e : Env} {w : World} {Q : Act → World → Prop} {ops : Array Oper} {i d : Nat} {rest : List Nat} {ty : TypeId} {ps : String} {af : Array Edge}
theorem GO.max2 {t u : TypeId} {x y : Operand} {kd : IntKind} {m n : Int} (ho : ops[i]? = some ⟨some d, .call { callee := .builtin .max, args := #[x, y], argTypes := #[t, u] }, ty, ps, af, none⟩) (hx : ev e x = some (.int kd m)) (hy : ev e y = some (.int kd n)) (hN : Nat.blt d N = true)
    (g : GO P N ops rest ((d, .int kd (if n > m then n else m)) :: e) w Q) : GO P N ops (i :: rest) e w Q :=
  GO.val _ ho rfl rfl hN (fun a hs => by simp [execOp, resolve, invoke, builtin, hs.ev hx, hs.ev hy, run_max_int2]) g
theorem GO.min2 {t u : TypeId} {x y : Operand} {kd : IntKind} {m n : Int} (ho : ops[i]? = some ⟨some d, .call { callee := .builtin .min, args := #[x, y], argTypes := #[t, u] }, ty, ps, af, none⟩) (hx : ev e x = some (.int kd m)) (hy : ev e y = some (.int kd n)) (hN : Nat.blt d N = true)
    (g : GO P N ops rest ((d, .int kd (if n < m then n else m)) :: e) w Q) : GO P N ops (i :: rest) e w Q :=
  GO.val _ ho rfl rfl hN (fun a hs => by simp [execOp, resolve, invoke, builtin, hs.ev hx, hs.ev hy, run_min_int2]) g
theorem GO.ixP {t el : TypeId} {x y : Operand} {b off len sz : Nat} {kd : IntKind} {m : Int} (n : Nat) (ho : ops[i]? = some ⟨some d, .indexAddr t x y, ty, ps, af, none⟩) (hx : ev e x = some (.pointer (some ⟨b, off, none⟩))) (hy : ev e y = some (.int kd m)) (hm : m = (n : Int)) (ht : P.underlying t = some (.array len el)) (hsz : (P.info? el).map (·.size) = some sz)
    (hl : Nat.blt n len = true) (hN : Nat.blt d N = true) (g : GO P N ops rest ((d, .pointer (some ⟨b, off + n * sz, none⟩)) :: e) w Q) : GO P N ops (i :: rest) e w Q := by
  subst hm
  have hl' : n < len := Nat.le_of_ble_eq_true hl
  refine GO.val _ ho rfl rfl hN (fun a hs => ?_) g
  obtain ⟨inf, hi, hi2⟩ := Option.map_eq_some_iff.1 hsz
  have h1 : (0 : Int) ≤ (n : Int) ∧ (n : Int) < (len : Int) := ⟨by omega, by omega⟩
  simp [execOp, hs.ev hx, hs.ev hy, Instr.indexAt, Instr.sureAddr, asIntOf, run_underlying ht, h1, sizeOf, typeInfo, hi, hi2, addr_off, hl']
end
def cutA (A : Option Addr) (l c s : Nat) : Option Addr := if c = l then A else A.map (·.add (l * s))
section
variable {α : Type} {T : Ty α} {P : Program} {N : Nat} {e : Env} {w0 w : World} {L : List HObj} {Q : Act → World → Prop} {ops : Array Oper} {i d : Nat} {rest : List Nat} {ty : TypeId} {ps : String} {af : Array Edge} {ly : Nat → T.Lay} {A : Option Addr} {c : Nat} {xs : List α}
theorem rc_shift : ∀ (l i : Nat) (xs : List α), rc T (fun k => ly (l + k)) i xs = rc T ly (l + i) xs
  | _, _, [] => rfl
  | l, i, x :: r => by rw [rc, rc, rc_shift l (i + 1) r, Nat.add_assoc]
theorem Rd.cut {l h : Nat} (hr : Rd T w A c ly xs) (hlh : l ≤ h) (hh : h ≤ xs.length) : Rd T w (cutA A l c T.sz) (c - l) (fun k => ly (l + k)) ((xs.take h).drop l) := by
  obtain ⟨h1, h2, h3, h4, h5⟩ := hr
  have hlen : ((xs.take h).drop l).length = h - l := by rw [List.length_drop, List.length_take]; omega
  refine ⟨by rw [hlen]; omega, by omega, fun hp => ?_, fun j u hu => ?_, fun j x hx => ?_⟩
  · rw [hlen] at hp
    obtain ⟨b, o, rfl⟩ := h3 (by omega)
    exact ⟨b, o + l * T.sz, by unfold cutA; rw [if_neg (by omega)]; exact congrArg some (addr_off b o _)⟩
  · have hp : 0 < h - l := by
      rcases Nat.eq_zero_or_pos (h - l) with h0 | h0
      · rw [List.eq_nil_of_length_eq_zero (hlen.trans h0)] at hu
        simp [rc] at hu
      · exact h0
    have he : ea (cutA A l c T.sz) j = ea A (l * T.sz + j) := by
      obtain ⟨b, o, rfl⟩ := h3 (by omega)
      unfold cutA
      rw [if_neg (by omega)]
      exact addr_add_add _ _ _
    rw [he]
    apply h4
    rw [rc_shift, Nat.add_zero] at hu
    have hsplit : xs = (xs.take l) ++ ((xs.take h).drop l) ++ xs.drop h := by
      rw [List.drop_take, List.append_assoc]
      have : List.take (h - l) (List.drop l xs) ++ List.drop h xs = List.drop l xs := by
        have := List.take_append_drop (h - l) (List.drop l xs)
        rwa [List.drop_drop, show l + (h - l) = h by omega] at this
      rw [this, List.take_append_drop]
    rw [hsplit, rc_append, rc_append]
    have hl2 : (rc T ly 0 (xs.take l)).length = l * T.sz := by rw [rc_length, List.length_take, Nat.min_eq_left (by omega)]
    have hlt : (xs.take l).length = l := by rw [List.length_take, Nat.min_eq_left (by omega)]
    rw [hlt, Nat.zero_add, List.append_assoc, List.getElem?_append_right (by rw [hl2]; omega), hl2, Nat.add_sub_cancel_left, List.getElem?_append_left (List.getElem?_eq_some_iff.1 hu).1]
    exact hu
  · rw [List.getElem?_drop, List.getElem?_take] at hx
    split at hx
    · exact h5 _ _ hx
    · cases hx
theorem RdIn.cut {l h : Nat} (hr : RdIn w0 L T A c ly xs) (hlh : l ≤ h) (hh : h ≤ xs.length) : RdIn w0 L T (cutA A l c T.sz) (c - l) (fun k => ly (l + k)) ((xs.take h).drop l) := fun w hs => (hr w hs).cut hlh hh
theorem run_slA {t el : TypeId} {inf : TypeInfo} (ht : P.underlying t = some (.slice el)) (hi : P.info? el = some inf) (hle : xs.length ≤ c) {kl kh : IntKind} {l h : Int} (lo hi' : Option Value) (hlo : (lo = none ∧ l = 0) ∨ lo = some (.int kl l)) (hhi : (hi' = none ∧ h = xs.length) ∨ hi' = some (.int kh h)) (h0 : 0 ≤ l) (h1 : l ≤ h) (h2 : h ≤ (xs.length : Int)) :
    (Instr.sliceAt t (.slice A xs.length c) lo hi' none).run P w = .ok (.slice (cutA A l.toNat c inf.size) (h.toNat - l.toNat) (c - l.toNat)) w := by
  have eh : (h.toNat : Int) = h := Int.toNat_of_nonneg (by omega)
  have hc : h ≤ (c : Int) := by omega
  have he : P.elem t = el := by simp [Program.elem, ht]
  have ht' : P.underlying t = some (.slice (P.elem t)) := by rw [he]; exact ht
  have hs : (sizeOf (P.elem t)).run P w = .ok inf.size w := by rw [he]; simp [sizeOf, typeInfo, hi]
  have h4 : 0 ≤ h := by omega
  have hN : l.toNat ≤ h.toNat ∧ h.toNat ≤ xs.length ∧ h.toNat ≤ c := by omega
  rw [run_sliceAt_slice (h := ht')]
  rcases hlo with ⟨rfl, rfl⟩ | rfl <;> rcases hhi with ⟨rfl, rfl⟩ | rfl
  · simp [Instr.slice, run_underlying ht', Instr.sliceBounds, run_sliceBound, hs, cutA, hle]
  · simp [Instr.slice, run_underlying ht', Instr.sliceBounds, run_sliceBound, hs, cutA, hle, h4, hc, eh, hN]
  · simp [Instr.slice, run_underlying ht', Instr.sliceBounds, run_sliceBound, hs, cutA, hle, h0, h1]
  · simp [Instr.slice, run_underlying ht', Instr.sliceBounds, run_sliceBound, hs, cutA, hle, h0, h1, h4, hc, eh, hN]
section
variable {t el : TypeId} {x y z : Operand} {kl kh : IntKind} {l h : Int}
theorem cut_len (h0 : 0 ≤ l) (h1 : l ≤ h) (h2 : h ≤ (xs.length : Int)) : ((xs.take h.toNat).drop l.toNat).length = h.toNat - l.toNat := by rw [List.length_drop, List.length_take]; omega
theorem GO.slL (HS : St w0 w L) (hr : RdIn w0 L T A c ly xs) (ho : ops[i]? = some ⟨some d, .slice t x (some y) none none, ty, ps, af, none⟩) (hx : ev e x = some (.slice A xs.length c)) (hy : ev e y = some (.int kl l))
    (ht : P.underlying t = some (.slice el)) (hsz : (P.info? el).map (·.size) = some T.sz) (h0 : 0 ≤ l) (h2 : l ≤ (xs.length : Int)) (hN : Nat.blt d N = true)
    (g : GO P N ops rest ((d, .slice (cutA A l.toNat c T.sz) ((xs.take xs.length).drop l.toNat).length (c - l.toNat)) :: e) w Q) : GO P N ops (i :: rest) e w Q := by
  obtain ⟨inf, hi, hi2⟩ := Option.map_eq_some_iff.1 hsz
  refine GO.val _ ho rfl rfl hN (fun a hs => ?_) g
  have := run_slA (P := P) (w := w) (A := A) (kh := .i64) ht hi (hr w HS).1 (some (.int kl l)) none (.inr rfl) (.inl ⟨rfl, rfl⟩) h0 h2 (Int.le_refl _)
  simp [execOp, hs.ev hx, hs.ev hy, this, hi2]
theorem GO.slH (HS : St w0 w L) (hr : RdIn w0 L T A c ly xs) (ho : ops[i]? = some ⟨some d, .slice t x none (some z) none, ty, ps, af, none⟩) (hx : ev e x = some (.slice A xs.length c)) (hz : ev e z = some (.int kh h))
    (ht : P.underlying t = some (.slice el)) (hsz : (P.info? el).map (·.size) = some T.sz) (h0 : 0 ≤ h) (h2 : h ≤ (xs.length : Int)) (hN : Nat.blt d N = true)
    (g : GO P N ops rest ((d, .slice (cutA A 0 c T.sz) ((xs.take h.toNat).drop 0).length (c - 0)) :: e) w Q) : GO P N ops (i :: rest) e w Q := by
  obtain ⟨inf, hi, hi2⟩ := Option.map_eq_some_iff.1 hsz
  refine GO.val _ ho rfl rfl hN (fun a hs => ?_) g
  have := run_slA (P := P) (w := w) (A := A) (kl := .i64) (l := 0) ht hi (hr w HS).1 none (some (.int kh h)) (.inl ⟨rfl, rfl⟩) (.inr rfl) (Int.le_refl _) h0 h2
  have hm : h.toNat ≤ xs.length := by omega
  simp [execOp, hs.ev hx, hs.ev hz, this, hi2, Nat.min_eq_left hm]
end
def over {α : Type} (xs : List α) (l : Nat) (ys : List α) : List α := xs.take l ++ ys ++ xs.drop (l + ys.length)
theorem over_length {α : Type} {xs ys : List α} {l : Nat} (h : l + ys.length ≤ xs.length) : (over xs l ys).length = xs.length := by
  unfold over; simp only [List.length_append, List.length_take, List.length_drop]; omega
theorem rc_over {ys : List α} {l : Nat} (h : l + ys.length ≤ xs.length) (hfl : ∀ k k', ly k = ly k') : rc T ly 0 (over xs l ys) = splice (rc T ly 0 xs) (l * T.sz) (rc T ly 0 ys) := by
  have h1 : ∀ (i j : Nat) (zs : List α), rc T ly i zs = rc T ly j zs := by
    intro i j zs
    induction zs generalizing i j with
    | nil => rfl
    | cons z r ih => rw [rc, rc, hfl i j, ih (i + 1) (j + 1)]
  have htk : ∀ n, n ≤ xs.length → (rc T ly 0 xs).take (n * T.sz) = rc T ly 0 (xs.take n) := fun n hn => by
    conv => lhs; rw [← List.take_append_drop n xs, rc_append]
    rw [List.take_append_of_le_length (by rw [rc_length, List.length_take, Nat.min_eq_left hn]; exact Nat.le_refl _)]
    exact List.take_of_length_le (by rw [rc_length, List.length_take, Nat.min_eq_left hn]; exact Nat.le_refl _)
  have hdr : ∀ n, n ≤ xs.length → (rc T ly 0 xs).drop (n * T.sz) = rc T ly 0 (xs.drop n) := fun n hn => by
    conv => lhs; rw [← List.take_append_drop n xs, rc_append]
    have hl : (rc T ly 0 (xs.take n)).length = n * T.sz := by rw [rc_length, List.length_take, Nat.min_eq_left hn]
    rw [List.drop_append_of_le_length (by rw [hl]; exact Nat.le_refl _), List.drop_of_length_le (by rw [hl]; exact Nat.le_refl _), List.nil_append]
    exact h1 _ _ _
  unfold over splice
  rw [rc_append, rc_append, htk l (by omega), rc_length, show l * T.sz + ys.length * T.sz = (l + ys.length) * T.sz by rw [Nat.add_mul], hdr _ h, h1 _ 0 ys, h1 _ 0 (xs.drop _)]
theorem St.overRow {g o : Nat} {t : TypeId} {j : Nat} {ys : List α} {l : Nat} (h : St w0 w L) (hj : L[j]? = some (Own T t A c ly xs)) (hfl : Flat T) (hly : ∀ k k', ly k = ly k') (hl : l + ys.length ≤ xs.length) (hp : 0 < ys.length) :
    ∃ (g o : Nat) (cur : Array Value), A = some ⟨g, o, none⟩ ∧ w.heap[g]? = some (.cells cur t (0, 0)) ∧ o + l * T.sz + ys.length * T.sz ≤ cur.size ∧ St w0 (w.setRow g (splice cur.toList (o + l * T.sz) (rc T ly 0 ys)).toArray) (L.set j (Own T t A c ly (over xs l ys))) := by
  obtain ⟨q, _, ho⟩ := h.get hj
  obtain ⟨q1, q2, h1, h2, hd, hown, hb, hs⟩ := ho
  obtain ⟨g, o, cur, hA, hh, hnc, hcm, hsz, htk⟩ := hown.open (by omega)
  subst hA
  have hmul : (l + ys.length) * T.sz ≤ xs.length * T.sz := Nat.mul_le_mul_right _ hl
  rw [Nat.add_mul] at hmul
  have hput := hown.put (k := l * T.sz) (vs := rc T ly 0 ys) hh (by rw [rc_length, rc_length]; omega)
  rw [rc_length] at hput
  refine ⟨g, o, cur, rfl, hh, hput.1, h.upd hj (by simp) rfl rfl rfl (fun q ho => ?_)⟩
  obtain ⟨q1, q2, h1, h2, hd, hown, hb, hs⟩ := ho
  have hg : q1 g := hb g rfl
  refine ⟨q, fun k hk => .inl hk, ⟨q1, q2, h1, h2, hd, ?_, by rw [over_length hl]; exact hb, SepM.flat hfl _ _ _⟩, fun k hk hn => setRow_other w g k _ (fun e => hn (by rw [e]; exact h1 g hg))⟩
  rw [over_length hl, rc_over hl hly]
  exact hput.2
theorem St.boxNil {b j : Nat} {t : TypeId} (h : St w0 w L) (hj : L[j]? = some (Box b t [])) (ly : Nat → T.Lay) : St w0 w (L.set j (Own T t (some ⟨b, 0, none⟩) 0 ly [])) := by
  refine h.upd hj (Nat.le_refl _) rfl rfl rfl (fun q hq => ⟨q, fun k hk => .inl hk, ⟨fun k => k = b, fun _ => False, fun k hk => by rw [hk]; exact hq.1, fun _ hk => hk.elim, fun _ _ hk => hk, ?_, fun k hk => ?_, trivial⟩, fun k _ _ => rfl⟩)
  · exact ⟨rc_length _ _, .inr ⟨b, 0, 0, #[], rfl, hq.2, Nat.le_refl _, by simp only [maxLen]; omega, by simp, by simp [rc]⟩⟩
  · simp [Value.ownBlock] at hk; exact hk.symm
end
theorem leN {i : Int} {n : Nat} (h : 0 ≤ i ∧ i ≤ (n : Int)) : i.toNat ≤ n := by omega
theorem leNN {i k : Int} (h : 0 ≤ i ∧ i ≤ k) : i.toNat ≤ k.toNat := by omega
theorem cutN {α : Type} {xs : List α} {l h : Nat} (hlh : l ≤ h) (hh : h ≤ xs.length) : l + ((xs.take h).drop l).length ≤ xs.length := by rw [List.length_drop, List.length_take]; omega
theorem cutC {α : Type} {xs : List α} {A : Option Addr} {l h c s : Nat} (hh : h ≤ xs.length) (hc : xs.length ≤ c) (hn : 0 < ((xs.take h).drop l).length) (g o : Nat) (hA : A = some ⟨g, o, none⟩) : cutA A l c s = some ⟨g, o + l * s, none⟩ := by
  rw [List.length_drop, List.length_take] at hn
  subst hA
  unfold cutA
  rw [if_neg (by omega)]
  exact congrArg some (addr_off g o _)
theorem Sat.lenC {N : Nat} {e : Env} {a : Act} {t n m c c' : Nat} {A : Option Addr} (hs : Sat N e a) (h : look e t = some (.slice A n c)) (hx : n = m) (hc : c = c') : Sat N ((t, .slice A m c') :: e) a := by
  subst hc
  exact hs.len h hx
theorem GO.lenC {P : Program} {N : Nat} {e : Env} {w : World} {Q : Act → World → Prop} {ops : Array Oper} {l : List Nat} {t n m c c' : Nat} {A : Option Addr} (h : look e t = some (.slice A n c)) (hx : n = m) (hc : c = c') (g : GO P N ops l ((t, .slice A m c') :: e) w Q) : GO P N ops l e w Q := fun a hs => g a (hs.lenC h hx hc)
theorem G.lenC {P : Program} {f : FuncId} {N : Nat} {e : Env} {k : List Item} {w : World} {R : Ending → World → Prop} {t n m c c' : Nat} {A : Option Addr} (h : look e t = some (.slice A n c)) (hx : n = m) (hc : c = c') (g : G P f N ((t, .slice A m c') :: e) k w R) : G P f N e k w R := fun a hs => g a (hs.lenC h hx hc)
end Go.Proofs.YtbjfinndngafoaaGreat
