/-
  A row into which an element is put: the rows' cells alone, and the rules of slices.Insert.
-/
import Derived.Test.YtkmeepgpmppibaaGreatDoorSlP
import Derived.Lib.Overlaps
set_option linter.unusedVariables false
set_option linter.unusedSimpArgs false
namespace Go.Proofs.YtkmeepgpmppibaaGreatDoor
open Go.RowKit
abbrev Raw (n : Nat) := { v : List Value // v.length = n ∧ ∀ u, u ∈ v → u.oneCell' = true }
abbrev Mv (n : Nat) : Ty (Raw n) := Ty.flat n (fun v => v.1) (fun v => v.2.1) (fun v u h => v.2.2 u h)
def hd {α : Type} (T : Ty α) (l : T.Lay) (x : α) : Raw T.sz := ⟨T.cells l x, T.len l x, fun u h => T.one l x u h⟩
def hds {α : Type} (T : Ty α) (ly : Nat → T.Lay) : Nat → List α → List (Raw T.sz)
  | _, [] => []
  | i, x :: r => hd T (ly i) x :: hds T ly (i + 1) r
section
variable {α : Type} {T : Ty α} {t : TypeId} {w0 w : World} {L : List Cu} {A A' : Option Addr} {c c' m : Nat} {ly ly' : Nat → T.Lay} {xs ys r : List α} {l : T.Lay} {y0 : α}
theorem bM : ∀ (xs : List α) (i m : Nat), rc (Mv T.sz) (fun _ => ()) m (hds T ly i xs) = rc T ly i xs
  | [], _, _ => rfl
  | x :: r, i, m => by rw [hds, rc, rc, bM r (i + 1) (m + 1)]; rfl
theorem Oe : ∀ (xs : List α) (i : Nat), (hds T ly i xs).length = xs.length
  | [], _ => rfl
  | x :: r, i => by rw [hds, List.length_cons, List.length_cons, Oe r (i + 1)]
theorem Sg : ∀ (xs ys : List α) (i : Nat), hds T ly i (xs ++ ys) = hds T ly i xs ++ hds T ly (i + xs.length) ys
  | [], ys, i => rfl
  | x :: r, ys, i => by
    rw [List.cons_append, hds, hds, Sg r ys (i + 1), List.cons_append, List.length_cons, show i + 1 + r.length = i + (r.length + 1) by omega]
theorem Ul : ∀ (xs : List α) (i j : Nat), (∀ k, k < xs.length → ly (i + k) = ly' (j + k)) → hds T ly i xs = hds T ly' j xs
  | [], _, _, _ => rfl
  | x :: r, i, j, h => by
    have h0 := h 0 (by simp)
    rw [Nat.add_zero, Nat.add_zero] at h0
    rw [hds, hds, h0, Ul r (i + 1) (j + 1) (fun k hk => by
      have := h (k + 1) (by simp only [List.length_cons]; omega)
      rw [show i + 1 + k = i + (k + 1) by omega, show j + 1 + k = j + (k + 1) by omega]
      exact this)]
theorem Gu.move : ∀ {xs : List α} {i j : Nat} {q : Nat → Prop}, Gu T w ly i xs q → (∀ k, k < xs.length → ly (i + k) = ly' (j + k)) → Gu T w ly' j xs q
  | [], _, _, _, _, _ => trivial
  | x :: r, i, j, q, ⟨q0, q1, h0, h1, hd, hx, hs⟩, h => by
    have e := h 0 (by simp)
    rw [Nat.add_zero, Nat.add_zero] at e
    exact ⟨q0, q1, h0, h1, hd, e ▸ hx, Gu.move hs (fun k hk => by
      have := h (k + 1) (by simp only [List.length_cons]; omega)
      rw [show i + 1 + k = i + (k + 1) by omega, show j + 1 + k = j + (k + 1) by omega]
      exact this)⟩
theorem St.yH (HS : St w0 w (Own T t A c ly xs :: L)) : St w0 w (Own (Mv T.sz) t A c (fun _ => ()) (hds T ly 0 xs) :: Te T ly xs :: L) := by
  obtain ⟨hbel, q, r, hq, hr, hqr, ⟨q1, q2, h1, h2, hd, hown, hb, hs⟩, hL⟩ := HS
  refine ⟨hbel, q1, fun k => q2 k ∨ r k, fun k hk => hq k (h1 k hk), fun k hk => hk.elim (fun h => hq k (h2 k h)) (hr k), fun k hk hn => hn.elim (hd k hk) (fun h => hqr k (h1 k hk) h), ⟨q1, fun _ => False, fun _ h => h, fun _ h => h.elim, fun _ _ h => h, ?_, ?_, Gu.flat Bv _ _ _⟩, q2, r, fun k hk => .inl hk, fun k hk => .inr hk, fun k hk hn => hqr k (h2 k hk) hn, hs, hL⟩
  · rw [Oe, bM]; exact hown
  · rw [Oe]; exact hb
theorem St.wG (HS : St w0 w (Own (Mv T.sz) t A c (fun _ => ()) (hds T ly 0 xs) :: Te T ly xs :: L)) : St w0 w (Own T t A c ly xs :: L) := by
  obtain ⟨hbel, q, r, hq, hr, hqr, ⟨q1, q2, h1, h2, hd, hown, hb, hs⟩, q3, r3, hq3, hr3, hd3, hs3, hL⟩ := HS
  rw [Oe] at hown hb
  rw [bM] at hown
  exact ⟨hbel, fun k => q1 k ∨ q3 k, r3, fun k hk => hk.elim (fun h => hq k (h1 k h)) (fun h => hr k (hq3 k h)), fun k hk => hr k (hr3 k hk), fun k hk hn => hk.elim (fun h => hqr k (h1 k h) (hr3 k hn)) (fun h => hd3 k h hn),
    ⟨q1, q3, fun k hk => .inl hk, fun k hk => .inr hk, fun k hk hn => hqr k (h1 k hk) (hq3 k hn), hown, hb, hs3⟩, hL⟩
def Oa {β : Type} (ly : Nat → β) (l : β) (n : Nat) : Nat → β := fun k => if k < n then ly k else if k = n then l else ly (k - 1)
theorem St.rH {n : Nat} (hn : n ≤ xs.length) (HS : St w0 w (Te T ly xs :: Elt T l y0 :: L)) : St w0 w (Te T (Oa ly l n) (xs.take n ++ y0 :: xs.drop n) :: L) := by
  obtain ⟨hbel, q, r, hq, hr, hqr, hs, q2, r2, h2, h3, hd2, hy, hL⟩ := HS
  refine ⟨hbel, fun k => q k ∨ q2 k, r2, fun k hk => hk.elim (hq k) (fun h => hr k (h2 k h)), fun k hk => hr k (h3 k hk), fun k hk hn => hk.elim (fun h => hqr k h (h3 k hn)) (fun h => hd2 k h hn), ?_, hL⟩
  have hs' : Gu T w ly 0 (xs.take n ++ xs.drop n) q := by rw [List.take_append_drop]; exact hs
  obtain ⟨p1, p2, g1, g2, gd, s1, s2⟩ := Gu.cut hs'
  have hl : (xs.take n).length = n := by rw [List.length_take]; omega
  rw [hl, Nat.zero_add] at s2
  have s1' : Gu T w (Oa ly l n) 0 (xs.take n) p1 := Gu.move s1 (fun k hk => by rw [hl] at hk; simp only [Oa, Nat.zero_add, if_pos hk])
  have s2' : Gu T w (Oa ly l n) (n + 1) (xs.drop n) p2 := Gu.move s2 (fun k hk => by
    simp only [Oa]
    rw [if_neg (by omega), if_neg (by omega), show n + 1 + k - 1 = n + k by omega])
  have hy' : T.M w q2 (Oa ly l n n) y0 := by simp only [Oa]; rw [if_neg (by omega), if_pos trivial]; exact hy
  have hjn : Gu T w (Oa ly l n) 0 (xs.take n ++ y0 :: xs.drop n) (fun k => p1 k ∨ (q2 k ∨ p2 k)) := Gu.join s1' (by
    rw [hl, Nat.zero_add]
    exact ⟨q2, p2, fun k hk => .inl hk, fun k hk => .inr hk, fun k hk hn => hqr k (g2 k hn) (h2 k hk), hy', s2'⟩) (fun k hk hn => hn.elim (fun h => hqr k (g1 k hk) (h2 k h)) (gd k hk))
  exact Gu.more hjn (fun k hk => hk.elim (fun h => .inl (g1 k h)) (fun h => h.elim .inr (fun h => .inl (g2 k h))))
theorem pK {n : Nat} (hn : n ≤ xs.length) : hds T (Oa ly l n) 0 (xs.take n ++ y0 :: xs.drop n) = (hds T ly 0 xs).take n ++ hd T l y0 :: (hds T ly 0 xs).drop n := by
  have hl : (xs.take n).length = n := by rw [List.length_take]; omega
  have h0 : hds T ly 0 xs = hds T ly 0 (xs.take n) ++ hds T ly n (xs.drop n) := by
    conv => lhs; rw [← List.take_append_drop n xs, Sg, hl, Nat.zero_add]
  have hl2 : (hds T ly 0 (xs.take n)).length = n := by rw [Oe, hl]
  rw [Sg, hl, Nat.zero_add, hds, h0, List.take_left' hl2, List.drop_left' hl2]
  have e1 : hds T (Oa ly l n) 0 (xs.take n) = hds T ly 0 (xs.take n) := Ul _ _ _ (fun k hk => by rw [hl] at hk; simp only [Oa, Nat.zero_add, if_pos hk])
  have e2 : hds T (Oa ly l n) (n + 1) (xs.drop n) = hds T ly n (xs.drop n) := Ul _ _ _ (fun k hk => by
    simp only [Oa]
    rw [if_neg (by omega), if_neg (by omega), show n + 1 + k - 1 = n + k by omega])
  have e3 : Oa ly l n n = l := by simp only [Oa]; rw [if_neg (by omega), if_pos trivial]
  rw [e1, e2, e3]
theorem St.wW {n : Nat} (hn : n ≤ xs.length) (HS : St w0 w (Own (Mv T.sz) t A c (fun _ => ()) ((hds T ly 0 xs).take n ++ hd T l y0 :: (hds T ly 0 xs).drop n) :: Te T ly xs :: Elt T l y0 :: L)) : St w0 w (Own T t A c (Oa ly l n) (xs.take n ++ y0 :: xs.drop n) :: L) := by
  rw [← pK hn] at HS
  have h1 : St w0 w (Te T ly xs :: Elt T l y0 :: Own (Mv T.sz) t A c (fun _ => ()) (hds T (Oa ly l n) 0 (xs.take n ++ y0 :: xs.drop n)) :: L) := HS.pk 3 [1, 2, 0] rfl
  have h2 : St w0 w (Own (Mv T.sz) t A c (fun _ => ()) (hds T (Oa ly l n) 0 (xs.take n ++ y0 :: xs.drop n)) :: Te T (Oa ly l n) (xs.take n ++ y0 :: xs.drop n) :: L) := (h1.rH hn).pk 2 [1, 0] rfl
  exact h2.wG
end
theorem Ug {P : Program} (w : World) (t tx ty e : TypeId) (i : TypeInfo) (z : Value) (size bytes : Nat) (ht : P.underlying t = some (.slice e)) (htx : P.underlying tx = some (.int .i64)) (hi : P.info? e = some i) (hz : i.zero = some z)
    (hsize : i.size = size) (hby : i.bytes = bytes) (hzs : z.cells.size = size) (hsz : 0 < size)
    (b : Addr) (n cap : Nat) (olds : List Value) (hlo : olds.length = n * size) (holds : ∀ j u, olds[j]? = some u → w.cell? (b.add j) = some u) (m : Nat)
    (hp : 0 < m) (hg : cap < n + m) (h63 : n + m ≤ maxLen) (hbytes : (n + m) * bytes ≤ 140737488355328) :
    ∃ v' w', (Builtin.append_ #[t, tx] ty #[.slice (some b) n cap, .int .i64 (m : Int)]).run P w = .ok v' w' ∧ w'.ownsRow w.heap.size e size v' (n + m) (olds ++ (Builtin.zeroCells z.cells m).toList) ∧ w.grownBy w' none := by
  subst hsize
  subst hby
  have hsmall : n + m ≤ 9223372036854775807 := by simp only [maxLen] at h63; omega
  have hzl : (Builtin.zeroCells z.cells m).toList.length = m * i.size := by rw [Array.length_toList, size_zeroCells, hzs]
  have hlen : (olds ++ (Builtin.zeroCells z.cells m).toList).length = (n + m) * i.size := by rw [List.length_append, hlo, hzl, Nat.add_mul]
  have hge := grownCap_ge w (n + m) cap e
  have hcm : grownCap w (n + m) cap e ≤ maxLen := grownCap_le_maxLen w (n + m) cap e h63
  have hn : ¬ (n + m ≤ cap) := by omega
  have h63' : ¬ (9223372036854775807 < ((n : Int) + (m : Int))) := by omega
  have hfit := growslice_fits hg hbytes
  have h48' : ¬ (281474976710656 < Builtin.nextslicecap (n + m) cap * i.bytes) := by omega
  have hmb : m * i.bytes ≤ 140737488355328 := Nat.le_trans (Nat.mul_le_mul_right _ (Nat.le_add_left m n)) hbytes
  have hmb' : ¬ (281474976710656 < (m : Int) * (i.bytes : Int)) := by rw [← Int.natCast_mul]; omega
  have hm9 : ¬ ((m : Int) < 0) := by omega
  have hmx : ¬ (9223372036854775807 < (n : Int) + max (m : Int) 0) := by omega
  have hw : IntKind.i64.wrap (m : Int) = (m : Int) := H8 (by omega) (by omega)
  have hfo := run_firstCells_some (P := P) w.drew i.size n b n cap olds hlo (by simpa using holds)
  refine ⟨.slice (some ⟨w.heap.size, 0, none⟩) (n + m) (grownCap w (n + m) cap e), w.drew.alloc (.cells (olds.toArray ++ Builtin.zeroCells z.cells m ++ Builtin.zeroCells z.cells (grownCap w (n + m) cap e - (n + m))) e), ?_,
    ⟨hlen, .inr ⟨w.heap.size, _, _, rfl, Nat.le_refl _, heap_alloc_new w.drew _, hge, hcm, ?_, ?_⟩⟩, ⟨rfl, rfl, rfl, by simp, fun k hk _ => heap_alloc_old w.drew _ hk⟩⟩
  · simp [Builtin.append_, run_underlying ht, run_underlying htx, sizeOf, typeInfo, zeroValue, hi, hz, hn, h63', hm9, hmx, h48', hmb', hw, asInt, asIntOf, Question.forced, hfo, newRow, grownCap]
    have h0 : ¬ (m * i.size = 0) := Nat.ne_of_gt (Nat.mul_pos hp hsz)
    simp [h0, hm9]
  · simp only [Array.size_append, List.size_toArray, size_zeroCells, hzs, hlo, ← Nat.add_mul]
    congr 1
    omega
  · simp only [Array.toList_append, List.append_assoc]
    rw [← List.append_assoc, ← hlen]
    exact List.take_left
section
variable {P : Program} {w : World} {A : Option Addr} {t el : TypeId} {kl kh : IntKind} {l h : Int} {n c : Nat}
theorem oD {inf : TypeInfo} (ht : P.underlying t = some (.slice el)) (hi : P.info? el = some inf) (h0 : 0 ≤ l) (h1 : l ≤ (n : Int)) (hc : n ≤ c) :
    (Instr.sliceAt t (.slice A n c) (some (.int kl l)) none none).run P w = .ok (.slice (Jz A l.toNat c inf.size) (n - l.toNat) (c - l.toNat)) w := by
  have he : P.elem t = el := by simp [Program.elem, ht]
  have ht' : P.underlying t = some (.slice (P.elem t)) := by rw [he]; exact ht
  have hs : (sizeOf (P.elem t)).run P w = .ok inf.size w := by rw [he]; simp [sizeOf, typeInfo, hi]
  have hN : l.toNat ≤ n := by omega
  rw [run_sliceAt_slice (h := ht')]
  simp [Instr.slice, run_underlying ht', Instr.sliceBounds, run_sliceBound, hs, Jz, h0, h1, hc, hN]
theorem kF {inf : TypeInfo} (ht : P.underlying t = some (.slice el)) (hi : P.info? el = some inf) (h0 : 0 ≤ h) (hc : h ≤ (c : Int)) :
    (Instr.sliceAt t (.slice A n c) none (some (.int kh h)) none).run P w = .ok (.slice A h.toNat c) w := by
  have he : P.elem t = el := by simp [Program.elem, ht]
  have ht' : P.underlying t = some (.slice (P.elem t)) := by rw [he]; exact ht
  have hs : (sizeOf (P.elem t)).run P w = .ok inf.size w := by rw [he]; simp [sizeOf, typeInfo, hi]
  have eh : (h.toNat : Int) = h := Int.toNat_of_nonneg h0
  have hA : Jz A 0 c inf.size = A := Ud _ _ _
  unfold Jz at hA
  have hN : h.toNat ≤ c := by omega
  rw [run_sliceAt_slice (h := ht')]
  simp [Instr.slice, run_underlying ht', Instr.sliceBounds, run_sliceBound, hs, h0, hc, eh, hN]
  simpa using hA
end
theorem Sat.eqV {N : Nat} {e : Env} {a : Act} {t : Nat} {v v' : Value} (hs : Sat N e a) (h : look e t = some v) (hv : v = v') : Sat N ((t, v') :: e) a := by
  subst hv
  refine ⟨hs.defers, hs.size, fun s v' hv => ?_⟩
  simp only [look] at hv
  cases hb : Nat.beq t s with
  | true => rw [hb] at hv; have := Nat.eq_of_beq_eq_true hb; subst this; cases hv; exact hs.at_ t _ h
  | false => rw [hb] at hv; exact hs.at_ s v' hv
theorem GO.eqV {P : Program} {N : Nat} {e : Env} {w : World} {Q : Act → World → Prop} {ops : Array Oper} {l : List Nat} (t : Nat) (v' : Value) {v : Value} (h : Go.Proofs.YtkmeepgpmppibaaGreatDoor.look e t = some v) (hv : v = v') (g : GO P N ops l ((t, v') :: e) w Q) : GO P N ops l e w Q := fun a hs => g a (hs.eqV h hv)
theorem G.eqV {P : Program} {f : FuncId} {N : Nat} {e : Env} {k : List Item} {w : World} {R : Ending → World → Prop} (t : Nat) (v' : Value) {v : Value} (h : Go.Proofs.YtkmeepgpmppibaaGreatDoor.look e t = some v) (hv : v = v') (g : G P f N ((t, v') :: e) k w R) : G P f N e k w R := fun a hs => g a (hs.eqV h hv)
theorem vW {A : Option Addr} {c k s : Nat} (h : k < c) (g o : Nat) (hA : A = some ⟨g, o, none⟩) : Jz A k c s = some ⟨g, o + k * s, none⟩ := by
  subst hA
  unfold Jz
  rw [if_neg (by omega)]
  simp [Gt]
section
variable {α : Type} {T : Ty α} {P : Program} {N : Nat} {e : Env} {w0 w : World} {L : List Cu} {Q : Act → World → Prop} {ops : Array Oper} {i d : Nat} {rest : List Nat} {ty : TypeId} {ps : String} {af : Array Edge} {t el : TypeId} {x y z : Operand} {A : Option Addr} {n c sz : Nat} {kl kh : IntKind} {l h : Int}
theorem GO.aH (hc : n ≤ c) (ho : ops[i]? = some ⟨some d, .slice t x (some y) none none, ty, ps, af, none⟩) (hx : ev e x = some (.slice A n c)) (hy : ev e y = some (.int kl l)) (ht : P.underlying t = some (.slice el)) (hsz : (P.info? el).map (·.size) = some sz) (h0 : 0 ≤ l) (h1 : l ≤ (n : Int)) (hN : Nat.blt d N = true)
    (g : GO P N ops rest ((d, .slice (Jz A l.toNat c sz) (n - l.toNat) (c - l.toNat)) :: e) w Q) : GO P N ops (i :: rest) e w Q := by
  obtain ⟨inf, hi, hi2⟩ := Option.map_eq_some_iff.1 hsz
  refine GO.val _ ho rfl rfl hN (fun a hs => ?_) g
  have := oD (P := P) (w := w) (A := A) (kl := kl) ht hi h0 h1 hc
  simp [execOp, hs.ev hx, hs.ev hy, this, hi2]
theorem GO.xM (ho : ops[i]? = some ⟨some d, .slice t x none (some z) none, ty, ps, af, none⟩) (hx : ev e x = some (.slice A n c)) (hz : ev e z = some (.int kh h)) (ht : P.underlying t = some (.slice el)) (hsz : (P.info? el).map (·.size) = some sz) (h0 : 0 ≤ h) (hc : h ≤ (c : Int)) (hN : Nat.blt d N = true)
    (g : GO P N ops rest ((d, .slice A h.toNat c) :: e) w Q) : GO P N ops (i :: rest) e w Q := by
  obtain ⟨inf, hi, hi2⟩ := Option.map_eq_some_iff.1 hsz
  refine GO.val _ ho rfl rfl hN (fun a hs => ?_) g
  have := kF (P := P) (w := w) (A := A) (n := n) (kh := kh) ht hi h0 hc
  simp [execOp, hs.ev hx, hs.ev hz, this]
theorem GO.yI {tx : TypeId} {ad : Addr} {k m j : Nat} {H : List (Raw sz)} {zv : Value} {bytes : Nat} (zr : Raw sz) (HS : St w0 w L) (hj : L[j]? = some (Own (Mv sz) el (some ad) c (fun _ => ()) H)) (hk : k ≤ H.length) (hk0 : 0 < H.length) (ho : ops[i]? = some ⟨some d, .call { callee := .builtin .append, args := #[x, y], argTypes := #[t, tx] }, ty, ps, af, none⟩) (hx : ev e x = some (.slice (some ad) k c)) (hy : ev e y = some (.int .i64 (m : Int)))
    (hp : 0 < m) (hg : c < k + m) (ht : P.underlying t = some (.slice el)) (htx : P.underlying tx = some (.int .i64)) (hinf : (P.info? el).map (fun i => (i.zero, i.size, i.bytes)) = some (some zv, sz, bytes)) (hz : zv.cells.toList = zr.1) (hs0 : Nat.blt 0 sz = true) (hb0 : Nat.blt 0 bytes = true) (hm : (k + m) * bytes ≤ 140737488355328) (hN : Nat.blt d N = true)
    (g : ∀ A' c' w', St w0 w' (Own (Mv sz) el A' c' (fun _ => ()) (H.take k ++ List.replicate m zr) :: L) → GO P N ops rest ((d, .slice A' (k + m) c') :: e) w' Q) : GO P N ops (i :: rest) e w Q := by
  obtain ⟨inf, hi, hzz⟩ := Option.map_eq_some_iff.1 hinf
  simp only [Prod.mk.injEq] at hzz
  obtain ⟨hz0, hz1, hz2⟩ := hzz
  have hs0' : 0 < sz := Nat.le_of_ble_eq_true hs0
  have hb0' : 0 < bytes := Nat.le_of_ble_eq_true hb0
  have hmm : k + m ≤ 140737488355328 := Nat.le_trans (Nat.le_mul_of_pos_right _ hb0') hm
  have hzs : zv.cells.size = sz := by rw [← Array.length_toList, hz]; exact zr.2.1
  obtain ⟨q, _, ho1⟩ := HS.get hj
  obtain ⟨q1, q2, h1, h2, hd, hown, hb, hs⟩ := ho1
  have hcells := hown.cells hk0
  have hsplit : rc (Mv sz) (fun _ => ()) 0 H = rc (Mv sz) (fun _ => ()) 0 (H.take k) ++ rc (Mv sz) (fun _ => ()) (0 + (H.take k).length) (H.drop k) := by
    conv => lhs; rw [← List.take_append_drop k H, G7]
  have hlk : (H.take k).length = k := by rw [List.length_take]; omega
  have hlo : (rc (Mv sz) (fun _ => ()) 0 (H.take k)).length = k * sz := by rw [D8, hlk]
  obtain ⟨v', w', hr, hown', hgr⟩ := Ug (P := P) w t tx ty el inf zv sz bytes ht htx hi hz0 hz1 hz2 hzs hs0' ad k c (rc (Mv sz) (fun _ => ()) 0 (H.take k)) hlo (fun j u hu => by
    have := hcells j u (by rw [hsplit, List.getElem?_append_left (List.getElem?_eq_some_iff.1 hu).1]; exact hu)
    simpa using this) m hp hg (by simp only [maxLen]; omega) hm
  obtain ⟨A', c', rfl⟩ := (OR.of hown').slice
  have hrep : ∀ (m i : Nat), rc (Mv sz) (fun _ => ()) i (List.replicate m zr) = (List.replicate m zr.1).flatten := by
    intro m
    induction m with
    | zero => intro i; rfl
    | succ m ih => intro i; rw [List.replicate_succ, List.replicate_succ, rc, ih, List.flatten_cons]
  have hzc : (Builtin.zeroCells zv.cells m).toList = (List.replicate m zr.1).flatten := by
    have hza : zv.cells = zr.1.toArray := by rw [← hz]
    have hp0 : 0 < zr.1.length := by rw [zr.2.1]; exact hs0'
    have := Lv zr.1 hp0 m
    rw [hza, ← this]
    simp [Builtin.zeroCells, madeCells]
  have hrc : rc (Mv sz) (fun _ => ()) 0 (H.take k) ++ (Builtin.zeroCells zv.cells m).toList = rc (Mv sz) (fun _ => ()) 0 (H.take k ++ List.replicate m zr) := by rw [G7, hrep, hzc]
  rw [hrc] at hown'
  have hlen : k + m = (H.take k ++ List.replicate m zr).length := by rw [List.length_append, hlk, List.length_replicate]
  refine GO.val _ ho rfl rfl hN (fun a hs => by simp only [execOp, resolve, invoke, builtin, Sem.run_bind, Sem.run_pure, Result.andThen_ok, List.map_toArray, List.map_cons, List.map_nil, hs.ev hx, hs.ev hy, hr]) (g A' c' w' ?_)
  have h0 := HS.Gr (Mv sz) el (fun _ => ())
  exact h0.appended (j := 0) (zs := H.take k ++ List.replicate m zr) rfl Bv hlen (OR.of hown') hgr (fun k hk => .inr (((OR.of hown').lt k hk |> fun _ => by
    rcases hown'.2 with ⟨hv, _⟩ | ⟨g', cap, cur, hv, hle, _⟩
    · injection hv with hA; subst hA; simp [Value.ownBlock] at hk
    · injection hv with hA; subst hA; have : g' = k := by simpa [Value.ownBlock] using hk
      omega)))
theorem rV (ly : Nat → T.Lay) {xs : List α} (hn : n ≤ xs.length) : (rc T ly 0 xs).take (n * T.sz) = rc T ly 0 (xs.take n) := by
  conv => lhs; rw [← List.take_append_drop n xs, G7]
  have hl : (rc T ly 0 (xs.take n)).length = n * T.sz := by rw [D8, List.length_take, Nat.min_eq_left hn]
  exact List.take_left' hl
theorem GO.vU {u : TypeId} {dc sn sc j k : Nat} {H : List (Raw sz)} (HS : St w0 w L) (hj : L[j]? = some (Own (Mv sz) el A c (fun _ => ()) H)) (ho : ops[i]? = some ⟨some d, .call { callee := .builtin .copy, args := #[x, y], argTypes := #[t, u] }, ty, ps, af, none⟩) (hx : ev e x = some (.slice (Jz A (k + 1) c sz) n dc)) (hy : ev e y = some (.slice (Jz A k c sz) sn sc))
    (ht : P.underlying t = some (.slice el)) (hsz : (P.info? el).map (·.size) = some sz) (hk : k < H.length) (hn : n = H.length - k) (hsn : n ≤ sn) (hc : H.length < c) (hN : Nat.blt d N = true)
    (g : ∀ w', St w0 w' (L.set j (Own (Mv sz) el A c (fun _ => ()) (H.take (k + 1) ++ H.drop k))) → GO P N ops rest ((d, .int .i64 (n : Int)) :: e) w' Q) : GO P N ops (i :: rest) e w Q := by
  obtain ⟨q, _, ho1⟩ := HS.get hj
  obtain ⟨q1, q2, h1, h2, hd, hown, hb, hs⟩ := ho1
  obtain ⟨gb, og, cur, rfl, hh, hnc, hcm, hcs, htk⟩ := hown.open (by omega)
  replace hcs : og + c * sz ≤ cur.size := hcs
  have hcells := hown.cells (by omega)
  have hlk : (H.take k).length = k := by rw [List.length_take]; omega
  have hfl : ∀ (ys : List (Raw sz)) (i j : Nat), rc (Mv sz) (fun _ => ()) i ys = rc (Mv sz) (fun _ => ()) j ys := by
    intro ys
    induction ys with
    | nil => intro i j; rfl
    | cons y r ih => intro i j; rw [rc, rc, ih (i + 1) (j + 1)]
  have hsplit : rc (Mv sz) (fun _ => ()) 0 H = rc (Mv sz) (fun _ => ()) 0 (H.take k) ++ rc (Mv sz) (fun _ => ()) 0 (H.drop k) := by
    conv => lhs; rw [← List.take_append_drop k H, G7]
    rw [hfl (H.drop k) (0 + (H.take k).length) 0]
  have hmin : Nat.min sn n = n := Nat.min_eq_right hsn
  have hlo : (rc (Mv sz) (fun _ => ()) 0 (H.take k)).length = k * sz := by rw [D8, hlk]
  have hlc : (rc (Mv sz) (fun _ => ()) 0 (H.drop k)).length = n * sz := by rw [D8, List.length_drop, hn]
  generalize hcse : rc (Mv sz) (fun _ => ()) 0 (H.drop k) = cs at hlc hsplit
  have hA1 : Jz (some ⟨gb, og, none⟩) (k + 1) c sz = some ⟨gb, og + (k + 1) * sz, none⟩ := by unfold Jz; rw [if_neg (by omega)]; simp [Gt]
  have hA0 : Jz (some ⟨gb, og, none⟩) k c sz = some ⟨gb, og + k * sz, none⟩ := by unfold Jz; rw [if_neg (by omega)]; simp [Gt]
  rw [hA1] at hx
  rw [hA0] at hy
  have hmul : (H.length + 1) * sz ≤ c * sz := Nat.mul_le_mul_right _ hc
  have hnk : k * sz + n * sz = H.length * sz := by rw [← Nat.add_mul]; congr 1; omega
  have e1 : (k + 1) * sz = k * sz + sz := Nat.succ_mul k sz
  have e2 : (H.length + 1) * sz = H.length * sz + sz := Nat.succ_mul _ sz
  have hfit : og + (k + 1) * sz + cs.length ≤ cur.size := by rw [hlc, e1]; omega
  have hcl : cur.toList.length = cur.size := Array.length_toList
  have hr := U7 (P := P) w t u ty el sz gb (og + (k + 1) * sz) n dc ⟨gb, og + k * sz, none⟩ sn sc cur el cs ht hsz hh (by rw [hlc, hmin]) (fun j v hv => by
    have := hcells (k * sz + j) v (by rw [hsplit, List.getElem?_append_right (by rw [hlo]; omega), hlo, Nat.add_sub_cancel_left]; exact hv)
    rw [Option.getD_some, Gt] at this
    rw [Gt, Nat.add_assoc]
    exact this) hfit (fun v hv => by
    rw [← hcse] at hv
    exact Tv hv)
  rw [hmin] at hr
  refine GO.val _ ho rfl rfl hN (fun a hs => by simp only [execOp, resolve, invoke, builtin, Sem.run_bind, Sem.run_pure, Result.andThen_ok, List.map_toArray, List.map_cons, List.map_nil, hs.ev hx, hs.ev hy, hr]; rfl) (g (w.setRow gb (splice cur.toList (og + (k + 1) * sz) cs).toArray) ?_)
  refine HS.upd hj (by simp) rfl rfl rfl (fun q ho => ?_)
  obtain ⟨q1, q2, h1, h2, hd, hown, hb, hs⟩ := ho
  have hg : q1 gb := hb gb rfl
  have hlen : (H.take (k + 1) ++ H.drop k).length = H.length + 1 := by rw [List.length_append, List.length_take, List.length_drop]; omega
  refine ⟨q, fun k hk => .inl hk, ⟨q1, q2, h1, h2, hd, ?_, by rw [hlen]; exact hb, Gu.flat Bv _ _ _⟩, fun k hk hn => setRow_other w gb k _ (fun e => hn (by rw [e]; exact h1 gb hg))⟩
  rw [hlen]
  refine ⟨by rw [D8, hlen], .inr ⟨gb, og, c, _, rfl, setRow_heap w gb _ _ el (0, 0) hh, hc, hcm, ?_, ?_⟩⟩
  · rw [List.size_toArray, Ol (by rw [hcl]; exact hfit), Array.length_toList]; exact hcs
  · show ((splice cur.toList (og + (k + 1) * sz) cs).drop og).take ((H.length + 1) * sz) = _
    rw [Ro (by omega), G7, hfl _ (0 + _) 0, hcse]
    unfold splice
    have htk1 : (cur.toList.drop og).take ((k + 1) * sz) = rc (Mv sz) (fun _ => ()) 0 (H.take (k + 1)) := by
      have h3 := rV (T := Mv sz) (fun _ => ()) (xs := H) (n := k + 1) (by omega)
      rw [← h3, ← htk, List.take_take, Nat.min_eq_left (Nat.mul_le_mul_right _ (show k + 1 ≤ H.length by omega))]
    rw [htk1]
    have hl1 : (rc (Mv sz) (fun _ => ()) 0 (H.take (k + 1))).length = (k + 1) * sz := by rw [D8, List.length_take, Nat.min_eq_left (by omega)]
    exact List.take_left' (by rw [List.length_append, hl1, hlc, e1, e2]; omega)
theorem GO.ovl {tS tR tb : TypeId} {hh : FuncId} {fn : Func} {tys : Array TypeId} {b la ca lb cb k : Nat} {cs : List Value} {X : Cu} {H : List (Raw sz)} (HS : St w0 w (Own (Mv sz) el A c (fun _ => ()) H :: X :: Box b tb cs :: L)) (hH : 0 < H.length) (hs0 : Nat.blt 0 sz = true)
    (ho : ops[i]? = some ⟨some d, .call { callee := .value (.func hh), args := #[x, y], argTypes := tys }, ty, ps, af, none⟩) (hf : P.funcs[hh]? = some fn) (hn : (fn.name == "runtime.NumGoroutine") = false) (hb : fn.body.isNone = true) (hn2 : Extern.findNext fn = none) (he : Extern.find fn = some (Extern.SlicesOverlaps.overlaps #[tS, tS] #[tR]))
    (ht : P.underlying tS = some (.slice el)) (hsz : (P.info? el).map (·.size) = some sz) (hx : ev e x = some (.slice (some ⟨b, 0, none⟩) la ca)) (hy : ev e y = some (.slice (Jz A k c sz) lb cb)) (hN : Nat.blt d N = true) (g : GO P N ops rest ((d, .bool false) :: e) w Q) : GO P N ops (i :: rest) e w Q := by
  obtain ⟨inf, hi, hi2⟩ := Option.map_eq_some_iff.1 hsz
  have hs0' : 0 < sz := Nat.le_of_ble_eq_true hs0
  have hbox := HS.box (j := 2) rfl
  obtain ⟨_, q, r, hq, hr, hqr, ⟨q1, q2, h1, h2, hd, hown, hb1, hs⟩, q3, r3, hq3, hr3, hd3, hX, q4, r4, hq4, hr4, hd4, ⟨hbq, _⟩, hL⟩ := HS
  obtain ⟨gb, og, cur, rfl, hh1, hnc, hcm, hcs, htk⟩ := hown.open hH
  have hne : b ≠ gb := fun e => hqr gb (h1 gb (hb1 gb rfl)) (hr3 gb (hq4 gb (by rw [← e]; exact hbq)))
  have hc0 : 0 < c * (Mv sz).sz := Nat.mul_pos (by omega) hs0'
  obtain ⟨o2, hcut⟩ : ∃ o2, Jz (some ⟨gb, og, none⟩) k c sz = some ⟨gb, o2, none⟩ := by
    unfold Jz
    split
    · exact ⟨_, rfl⟩
    · exact ⟨og + k * sz, by simp [Gt]⟩
  rw [hcut] at hy
  refine GO.val _ ho rfl rfl hN (fun a' hs => ?_) g
  have e3 : (#[x, y] : Array Operand).map a'.eval = #[Value.slice (some ⟨b, 0, none⟩) la ca, Value.slice (some ⟨gb, o2, none⟩) lb cb] := by simp [hs.ev hx, hs.ev hy]
  have hr := run_callFunc_extern hf hn hb hn2 he #[Value.slice (some ⟨b, 0, none⟩) la ca, Value.slice (some ⟨gb, o2, none⟩) lb cb] w
  rw [Lib.run_overlaps_apart (P := P) w tS tR el ht sz (fun w => by simp [sizeOf, typeInfo, hi, hi2]) ⟨b, 0, none⟩ ⟨gb, o2, none⟩ la ca lb cb hne tb el cs.toArray.size cur.size (by simp [World.shape?, hbox]) (by simp [World.shape?, hh1]) (by omega) (by simp [World.frozen?, hbox]) (by simp [World.frozen?, hbox])] at hr
  have e4 : a'.eval (Operand.func hh) = Value.func (Fn.func hh) #[] #[] := rfl
  simp only [execOp, resolve, Deferred.ofValue, e4, invoke, e3, Array.empty_append]
  exact hr
theorem pM {H : List α} {n k : Nat} {zr h0 : α} (hn : H.length = n) (hk : k < n) : over (over (H.take k ++ List.replicate (n + 1 - k) zr) k ([h0].take (n + 1 - k))) (k + 1) (((H.take H.length).drop k).take (n + 1 - (k + 1))) = H.take k ++ h0 :: H.drop k := by
  subst hn
  rw [show H.length + 1 - (k + 1) = H.length - k by omega]
  have hl : (H.take k).length = k := by rw [List.length_take]; omega
  have e1 : [h0].take (H.length + 1 - k) = [h0] := List.take_of_length_le (by simp; omega)
  have e2 : ((H.take H.length).drop k).take (H.length - k) = H.drop k := by rw [List.take_length]; exact List.take_of_length_le (by rw [List.length_drop]; omega)
  have e3 : over (H.take k ++ List.replicate (H.length + 1 - k) zr) k [h0] = (H.take k ++ [h0]) ++ List.replicate (H.length - k) zr := by
    unfold over
    rw [List.take_left' hl, show H.length + 1 - k = (H.length - k) + 1 by omega, List.replicate_succ]
    congr 1
    have : H.take k ++ zr :: List.replicate (H.length - k) zr = (H.take k ++ [zr]) ++ List.replicate (H.length - k) zr := by rw [List.append_assoc]; rfl
    rw [this]
    exact List.drop_left' (by rw [List.length_append, hl]; rfl)
  rw [e1, e2, e3]
  unfold over
  have hl2 : (H.take k ++ [h0]).length = k + 1 := by rw [List.length_append, hl]; rfl
  have e4 : (H.take k ++ [h0] ++ List.replicate (H.length - k) zr).drop (k + 1 + (H.drop k).length) = [] := List.drop_of_length_le (by rw [List.length_append, hl2, List.length_replicate, List.length_drop]; omega)
  rw [List.take_left' hl2, e4, List.append_nil, List.append_assoc]
  rfl
theorem vX {H : List α} {n k : Nat} {h0 : α} (hn : H.length = n) (hk : k < n) : over (H.take (k + 1) ++ H.drop k) k ([h0].take (n + 1 - k)) = H.take k ++ h0 :: H.drop k := by
  subst hn
  have hl : (H.take k).length = k := by rw [List.length_take]; omega
  have e1 : [h0].take (H.length + 1 - k) = [h0] := List.take_of_length_le (by simp; omega)
  rw [e1]
  unfold over
  have hl1 : (H.take (k + 1)).length = k + 1 := by rw [List.length_take]; omega
  have e2 : (H.take (k + 1) ++ H.drop k).take k = H.take k := by rw [List.take_append_of_le_length (by omega), List.take_take, Nat.min_eq_left (by omega)]
  rw [e2, show k + [h0].length = k + 1 from rfl, List.drop_left' hl1, List.append_assoc]
  rfl
end
end Go.Proofs.YtkmeepgpmppibaaGreatDoor
