/-
  Small words of the walk: tests, names, guards, results, rows that take rows in.
-/
import Derived.Test.YtbjfinndngafoaaGreatSlE
set_option linter.unusedVariables false
set_option linter.unusedSimpArgs false
namespace Go.Proofs.YtbjfinndngafoaaGreat
open Go.RowKit
section
variable {α β : Type} {c : Prop} [Decidable c] {a b : Option α} {r : α}
theorem ite_elim (h : (if c then a else b) = some r) : (c ∧ a = some r) ∨ (¬ c ∧ b = some r) := by
  by_cases hc : c
  · rw [if_pos hc] at h; exact .inl ⟨hc, h⟩
  · rw [if_neg hc] at h; exact .inr ⟨hc, h⟩
theorem ite_none (h : (if c then a else none) = some r) : c ∧ a = some r := by
  by_cases hc : c
  · rw [if_pos hc] at h; exact ⟨hc, h⟩
  · rw [if_neg hc] at h; cases h
theorem ite_some (h : (if c then none else b) = some r) : ¬ c ∧ b = some r := by
  by_cases hc : c
  · rw [if_pos hc] at h; cases h
  · rw [if_neg hc] at h; exact ⟨hc, h⟩
def bnd (x : β) (f : β → Option α) : Option α := f x
theorem bnd_elim {x : β} {f : β → Option α} (h : bnd x f = some r) : ∃ y, x = y ∧ f y = some r := ⟨x, rfl, h⟩
end
def bind2 {α0 α1 β : Type} (x : Option (α0 × α1)) (f : α0 → α1 → Option β) : Option β := x.bind fun z => f z.1 z.2
theorem bind2_elim {α0 α1 β : Type} {x : Option (α0 × α1)} {f : α0 → α1 → Option β} {r : β} (h : bind2 x f = some r) : ∃ a0 a1, x = some (a0, a1) ∧ f a0 a1 = some r := by
  obtain ⟨⟨a0, a1⟩, h1, h2⟩ := Option.bind_eq_some_iff.1 h
  exact ⟨a0, a1, h1, h2⟩
def bind3 {α0 α1 α2 β : Type} (x : Option (α0 × α1 × α2)) (f : α0 → α1 → α2 → Option β) : Option β := x.bind fun z => f z.1 z.2.1 z.2.2
theorem bind3_elim {α0 α1 α2 β : Type} {x : Option (α0 × α1 × α2)} {f : α0 → α1 → α2 → Option β} {r : β} (h : bind3 x f = some r) : ∃ a0 a1 a2, x = some (a0, a1, a2) ∧ f a0 a1 a2 = some r := by
  obtain ⟨⟨a0, a1, a2⟩, h1, h2⟩ := Option.bind_eq_some_iff.1 h
  exact ⟨a0, a1, a2, h1, h2⟩
def bind4 {α0 α1 α2 α3 β : Type} (x : Option (α0 × α1 × α2 × α3)) (f : α0 → α1 → α2 → α3 → Option β) : Option β := x.bind fun z => f z.1 z.2.1 z.2.2.1 z.2.2.2
theorem bind4_elim {α0 α1 α2 α3 β : Type} {x : Option (α0 × α1 × α2 × α3)} {f : α0 → α1 → α2 → α3 → Option β} {r : β} (h : bind4 x f = some r) : ∃ a0 a1 a2 a3, x = some (a0, a1, a2, a3) ∧ f a0 a1 a2 a3 = some r := by
  obtain ⟨⟨a0, a1, a2, a3⟩, h1, h2⟩ := Option.bind_eq_some_iff.1 h
  exact ⟨a0, a1, a2, a3, h1, h2⟩
theorem some2 {α0 α1 : Type} {a0 : α0} {a1 : α1} {b0 : α0} {b1 : α1} (h : some (a0, a1) = some (b0, b1)) : a0 = b0 ∧ a1 = b1 := by cases h; exact ⟨rfl, rfl⟩
theorem some3 {α0 α1 α2 : Type} {a0 : α0} {a1 : α1} {a2 : α2} {b0 : α0} {b1 : α1} {b2 : α2} (h : some (a0, a1, a2) = some (b0, b1, b2)) : a0 = b0 ∧ a1 = b1 ∧ a2 = b2 := by cases h; exact ⟨rfl, rfl, rfl⟩
theorem some4 {α0 α1 α2 α3 : Type} {a0 : α0} {a1 : α1} {a2 : α2} {a3 : α3} {b0 : α0} {b1 : α1} {b2 : α2} {b3 : α3} (h : some (a0, a1, a2, a3) = some (b0, b1, b2, b3)) : a0 = b0 ∧ a1 = b1 ∧ a2 = b2 ∧ a3 = b3 := by cases h; exact ⟨rfl, rfl, rfl, rfl⟩
theorem bnot_of {b : Bool} (h : ¬ b = true) : b = false := by cases b <;> simp_all
theorem bfalse {p q : Bool} (h : p = true → q = true) (hq : q = false) : p = false := by cases p <;> simp_all
theorem ltN {i : Int} {n : Nat} (h : 0 ≤ i ∧ i < (n : Int)) : i.toNat < n := by omega
theorem getD_eq {α : Type} {xs : List α} {d e : α} {i : Nat} (h : i < xs.length) (he : xs.getD i d = e) : xs[i]? = some e := by rw [← he]; exact getD_some h
section
variable {P : Program} {f : FuncId} {N : Nat} {e : Env} {k : List Item} {w : World} {R : Ending → World → Prop} {Q : Act → World → Prop} {ops : Array Oper} {l : List Nat} {i : Nat} {rest : List Nat}
theorem G.name (h : ∀ k', k' = k → G P f N e k' w R) : G P f N e k w R := h k rfl
theorem G.nameT {x : Item} (h : ∀ k', k' = k → G P f N e (x :: k') w R) : G P f N e (x :: k) w R := h k rfl
theorem Sat.known {a : Act} {t : Nat} {x b : Bool} (hs : Sat N e a) (h : look e t = some (.bool x)) (hx : x = b) : Sat N ((t, .bool b) :: e) a := by
  subst hx
  refine ⟨hs.defers, hs.size, fun s v hv => ?_⟩
  simp only [look] at hv
  cases hb : Nat.beq t s with
  | true => rw [hb] at hv; have := Nat.eq_of_beq_eq_true hb; subst this; cases hv; exact hs.at_ t _ h
  | false => rw [hb] at hv; exact hs.at_ s v hv
theorem Sat.len {a : Act} {t n m c : Nat} {A : Option Addr} (hs : Sat N e a) (h : look e t = some (.slice A n c)) (hx : n = m) : Sat N ((t, .slice A m c) :: e) a := by
  subst hx
  refine ⟨hs.defers, hs.size, fun s v hv => ?_⟩
  simp only [look] at hv
  cases hb : Nat.beq t s with
  | true => rw [hb] at hv; have := Nat.eq_of_beq_eq_true hb; subst this; cases hv; exact hs.at_ t _ h
  | false => rw [hb] at hv; exact hs.at_ s v hv
theorem GO.known {t : Nat} {x b : Bool} (h : look e t = some (.bool x)) (hx : x = b) (g : GO P N ops l ((t, .bool b) :: e) w Q) : GO P N ops l e w Q := fun a hs => g a (hs.known h hx)
theorem G.len {t n m c : Nat} {A : Option Addr} (h : look e t = some (.slice A n c)) (hx : n = m) (g : G P f N ((t, .slice A m c) :: e) k w R) : G P f N e k w R := fun a hs => g a (hs.len h hx)
theorem GO.on {o : Oper} {j t : Nat} {b : Bool} (ho : ops[i]? = some o) (hg : o.guard = some (j, b)) (hj : gdst ops j = some t) (hb : look e t = some (.bool b))
    (g : GO P N #[{ o with guard := none }] [0] e w (fun a' w' => wpOps P ops (fun en a w => en = .normal ∧ Q a w) rest a' w')) : GO P N ops (i :: rest) e w Q := by
  intro a hs
  have h1 := hs.at_ t _ hb
  have h2 : (ops[j]?).bind (·.dst) = some t := hj
  have hw : Region.wanted o (yielded ops a.tmps) = true := by
    simp only [Region.wanted, hg, yielded, h2]
    simp [h1]
  have h3 := g a hs
  have hw' : Region.wanted { o with guard := none } (yielded #[{ o with guard := none }] a.tmps) = true := rfl
  rw [wpOps_cons] at h3 ⊢
  unfold wpOp at h3 ⊢
  rw [ho]
  simp only [hw, if_true]
  have ho' : (#[{ o with guard := none }] : Array Oper)[0]? = some { o with guard := none } := rfl
  rw [ho'] at h3
  simp only [hw', if_true] at h3
  rcases h3 with h3 | ⟨_, a0, w0, h0, _⟩
  · refine .inl ?_
    have hmono := Oper.wp_mono (P := P) (K' := wpOps P ops (fun en a w => en = .normal ∧ Q a w) rest) (fun a w h => h.2) h3
    have he : execOp a.eval { o with guard := none } = execOp a.eval o := rfl
    unfold Oper.wp at hmono ⊢
    rw [he] at hmono
    revert hmono
    generalize (execOp a.eval o).run P w = r
    intro hmono
    cases r with
    | ok n w' =>
      cases n <;> simp only [Oper.upon] at hmono ⊢ <;> first
        | exact hmono
        | exact Calls.mono hmono (fun e w'' he => by cases e with
            | returned v => exact he
            | panicked c => exact absurd he.1 (by simp)
            | outgrown => obtain ⟨_, _, h, _⟩ := he; cases h)
    | halt x w' => cases x <;> simp only [Oper.upon] at hmono ⊢ <;> first | exact hmono | exact absurd hmono.1 (by simp)
  · cases h0
theorem GO.back {o : Oper} (g : GO P N ops rest e w Q) : GO P N #[o] [] e w (fun a' w' => wpOps P ops (fun en a w => en = .normal ∧ Q a w) rest a' w') := fun a hs => ⟨rfl, g a hs⟩
theorem GO.offU {o : Oper} {d j t : Nat} {b : Bool} (ho : ops[i]? = some o) (hg : o.guard = some (j, b)) (hj : gdst ops j = some t) (hb : look e t = some undef) (hd : o.dst = some d) (hN : Nat.blt d N = true)
    (g : GO P N ops rest ((d, undef) :: e) w Q) : GO P N ops (i :: rest) e w Q := by
  intro a hs
  have h1 := hs.at_ t _ hb
  have h2 : (ops[j]?).bind (·.dst) = some t := hj
  have hw : Region.wanted o (yielded ops a.tmps) = false := by
    simp only [Region.wanted, hg, yielded, h2]
    simp [h1, undef]
  simp only [wpOps, ho, hw, hd]
  exact g _ (hs.put hN undef)
theorem GO.at {a : Act} (hs : Sat N e a) (g : GO P N ops l e w Q) : wpOps P ops (fun en a' w' => en = .normal ∧ Q a' w') l a w := g a hs
theorem G.at {a : Act} (hs : Sat N e a) (g : G P f N e k w R) : Cont P f k R a w := g a hs
theorem Sat.ext {a : Act} (hs : Sat N e a) {d : Nat} (hd : Nat.blt d N = true) : ∃ v, Sat N ((d, v) :: e) a := by
  have hd' : d < a.tmps.size := by rw [hs.size]; exact Nat.le_of_ble_eq_true hd
  cases hl : look e d with
  | some v =>
    refine ⟨v, hs.defers, hs.size, fun s u hv => ?_⟩
    simp only [look] at hv
    cases hb : Nat.beq d s with
    | true => rw [hb] at hv; have := Nat.eq_of_beq_eq_true hb; subst this; cases hv; exact hs.at_ d _ hl
    | false => rw [hb] at hv; exact hs.at_ s u hv
  | none =>
    refine ⟨a.tmps[d], hs.defers, hs.size, fun s u hv => ?_⟩
    simp only [look] at hv
    cases hb : Nat.beq d s with
    | true => rw [hb] at hv; have := Nat.eq_of_beq_eq_true hb; subst this; cases hv; exact Array.getElem?_eq_getElem hd'
    | false => rw [hb] at hv; exact hs.at_ s u hv
end
theorem htA {P : Program} {t : TypeId} {n : Nat} {b : Bool} (h : agB P t n = true) : (naB P t && b || agB P t n) = true := by rw [h, Bool.or_true]
theorem htN {P : Program} {t : TypeId} {n : Nat} {b : Bool} (h : naB P t = true) (hb : b = true) : (naB P t && b || agB P t n) = true := by rw [h, hb]; rfl
theorem bndL {xs n : Nat} (h : Nat.ble xs n = true) : xs ≤ n := Nat.le_of_ble_eq_true h
section
variable {w0 w : World} {L : List HObj} {b j : Nat} {t : TypeId} {cs : List Value}
theorem St.emp (h : St w0 w L) : St w0 w (Emp :: L) := ⟨h.below, fun _ => False, fun k => w0.heap.size ≤ k ∧ k < w.heap.size, fun _ h => h.elim, fun _ h => h, fun _ h => h.elim, trivial, h.sep⟩
theorem set_same {l : List HObj} {i : Nat} {x : HObj} (h : l[i]? = some x) : l.set i x = l := by
  apply List.ext_getElem?
  intro m
  by_cases hm : i = m
  · subst hm; rw [List.getElem?_set_self (List.getElem?_eq_some_iff.1 h).1, h]
  · rw [List.getElem?_set_ne hm]
theorem St.boxEq {cs' : List Value} (h : St w0 w L) (hj : L[j]? = some (Box b t cs)) (he : cs = cs') : St w0 w (L.set j (Box b t cs')) := by
  subst he; rw [set_same hj]; exact h
theorem Res1.boxA {P : Program} {e : Env} {s : Nat} {ty tb : TypeId} {vs : List Value} (HS : St w0 w L) (hj : L[j]? = some (Box b tb cs)) (hx : look e s = some (.pointer (some ⟨b, 0, none⟩))) (hv : cs.take vs.length = vs) (ht : agB P ty vs.length = true) : Res1 P w e (.cell s ty) (.agg vs.toArray) := by
  refine ⟨_, hx, run_ld_yes ht (fun m u hu => ?_)⟩
  rw [addr_off, Nat.zero_add]
  refine HS.boxCell hj ?_
  rw [← hv, List.getElem?_take] at hu
  split at hu
  · exact hu
  · cases hu
end
section
variable {α : Type} {T : Ty α} {P : Program} {N : Nat} {e : Env} {w0 w : World} {L : List HObj} {Q : Act → World → Prop} {ops : Array Oper} {i d : Nat} {rest : List Nat} {ty : TypeId} {ps : String} {af : Array Edge}
theorem run_append_none (t ty el : TypeId) (inf : TypeInfo) (ht : P.underlying t = some (.slice el)) (hi : P.info? el = some inf) {v : Value} {n c size : Nat} {xs : List Value} (hown : OR w el size v n xs) : (Builtin.append_ #[t, t] ty #[v, .slice none 0 c]).run P w = .ok v w := by
  rcases hown.2 with ⟨rfl, rfl⟩ | ⟨g, o, cap, cur, rfl, _, hnc, _⟩
  · simp [Builtin.append_, run_underlying ht, sizeOf, typeInfo, hi, Builtin.lenOf, Builtin.firstCells]
  · simp [Builtin.append_, run_underlying ht, sizeOf, typeInfo, hi, Builtin.lenOf, Builtin.firstCells, hnc, storeCells]
theorem GO.appS {t el : TypeId} {x y : Operand} {A B : Option Addr} {c cb j : Nat} {ly ly2 : Nat → T.Lay} {xs ys : List α} {z : Value} {bytes : Nat} (HS : St w0 w L) (hj : L[j]? = some (Own T el A c ly xs)) (hr : RdIn w0 L T B cb ly2 ys) (hfl : Flat T) (ho : ops[i]? = some ⟨some d, .call { callee := .builtin .append, args := #[x, y], argTypes := #[t, t] }, ty, ps, af, none⟩) (hx : ev e x = some (.slice A xs.length c)) (hy : ev e y = some (.slice B ys.length cb))
    (ht : P.underlying t = some (.slice el)) (hinf : (P.info? el).map (fun i => (i.zero, i.size, i.bytes)) = some (some z, T.sz, bytes)) (hz : (z.cells.size == T.sz) = true) (hs0 : Nat.blt 0 T.sz = true) (hb0 : Nat.blt 0 bytes = true) (hm : (xs.length + ys.length) * bytes ≤ 140737488355328) (hN : Nat.blt d N = true)
    (hly : ∀ k, ly2 k = ly (xs.length + k) := by intro _; rfl)
    (g : ∀ A' c' w', St w0 w' (L.set j (Own T el A' c' ly (xs ++ ys))) → GO P N ops rest ((d, .slice A' (xs ++ ys).length c') :: e) w' Q) : GO P N ops (i :: rest) e w Q := by
  obtain ⟨inf, hi, hzz⟩ := Option.map_eq_some_iff.1 hinf
  simp only [Prod.mk.injEq] at hzz
  obtain ⟨hz0, hz1, hz2⟩ := hzz
  have hs0' : 0 < T.sz := Nat.le_of_ble_eq_true hs0
  have hb0' : 0 < bytes := Nat.le_of_ble_eq_true hb0
  have hmm : xs.length + ys.length ≤ 140737488355328 := Nat.le_trans (Nat.le_mul_of_pos_right _ hb0') hm
  obtain ⟨q, _, ho1⟩ := HS.get hj
  obtain ⟨q1, q2, h1, h2, hd, hown, hb, hs⟩ := ho1
  obtain ⟨hle, hcm, hA, hcell, _⟩ := hr w HS
  rcases Nat.eq_zero_or_pos ys.length with h0 | h0
  · obtain rfl := List.eq_nil_of_length_eq_zero h0
    cases B with
    | none =>
      have hrun := run_append_none (P := P) (w := w) t ty el inf ht hi (c := cb) hown
      have hst : St w0 w (L.set j (Own T el A c ly (xs ++ []))) := by rw [List.append_nil, set_same hj]; exact HS
      refine GO.val (.slice A (xs ++ ([] : List α)).length c) ho rfl rfl hN (fun a hs => by
        simp only [execOp, resolve, invoke, builtin, Sem.run_bind, Sem.run_pure, Result.andThen_ok, List.map_toArray, List.map_cons, List.map_nil, hs.ev hx, hs.ev hy, List.length_nil, hrun, List.append_nil]) (g A c w hst)
    | some ad =>
      have hcells : ∀ m u, ([] : List Value)[m]? = some u → w.cell? (ad.add m) = some u := fun m u hu => by simp at hu
      obtain ⟨v', w', hrn, hown', hg, hat⟩ := run_append_o (P := P) w t ty el inf z T.sz bytes ht hi hz0 hz1 hz2 (by simpa using hz) hs0' _ _ _ hown ad 0 cb [] (by simp) hcells (fun u hu => by cases hu) (by simp only [maxLen]; omega) (by simpa using hm)
      obtain ⟨A', c', rfl⟩ := hown'.slice
      rw [List.append_nil] at hown'
      have hst := HS.appended hj hfl (zs := xs) rfl hown' hg hat
      refine GO.val (.slice A' (xs ++ ([] : List α)).length c') ho rfl rfl hN (fun a hs => by
        simp only [execOp, resolve, invoke, builtin, Sem.run_bind, Sem.run_pure, Result.andThen_ok, List.map_toArray, List.map_cons, List.map_nil, hs.ev hx, hs.ev hy, List.length_nil, hrn, List.append_nil]; rfl) (g A' c' w' (by rw [List.append_nil]; exact hst))
  · obtain ⟨b, o, hB⟩ := hA h0
    subst hB
    have hcells : ∀ m u, (rc T ly2 0 ys)[m]? = some u → w.cell? ((⟨b, o, none⟩ : Addr).add m) = some u := fun m u hu => hcell m u hu
    obtain ⟨v', w', hrn, hown', hg, hat⟩ := run_append_o (P := P) w t ty el inf z T.sz bytes ht hi hz0 hz1 hz2 (by simpa using hz) hs0' _ _ _ hown ⟨b, o, none⟩ ys.length cb (rc T ly2 0 ys) (rc_length _ _) hcells (fun u hu => rc_one hu) (by simp only [maxLen]; omega) hm
    obtain ⟨A', c', rfl⟩ := hown'.slice
    have hrc : rc T ly 0 xs ++ rc T ly2 0 ys = rc T ly 0 (xs ++ ys) := by
      rw [rc_append, Nat.zero_add]
      congr 1
      have key : ∀ (ys : List α) (i : Nat), rc T ly2 i ys = rc T ly (xs.length + i) ys := by
        intro ys
        induction ys with
        | nil => intro i; rfl
        | cons y r ih => intro i; rw [rc, rc, ih, hly i]; rfl
      exact key ys 0
    rw [hrc] at hown'
    have hlen : xs.length + ys.length = (xs ++ ys).length := by rw [List.length_append]
    have hst := HS.appended hj hfl hlen hown' hg hat
    refine GO.val (.slice A' (xs ++ ys).length c') ho rfl rfl hN (fun a hs => by
      simp only [execOp, resolve, invoke, builtin, Sem.run_bind, Sem.run_pure, Result.andThen_ok, List.map_toArray, List.map_cons, List.map_nil, hs.ev hx, hs.ev hy, hrn, ← hlen]) (g A' c' w' hst)
theorem GO.appR {β : Type} {S : Ty β} {u t el tb : TypeId} {x y : Operand} {A A2 : Option Addr} {c c2 b : Nat} {ly : Nat → SLay S.Lay} {ly2 : Nat → S.Lay} {xs : List (List β)} {ys : List β} {z : Value} {bytes : Nat} (HS : St w0 w (Own (Ty.slice u S) el A c ly xs :: Box b tb [.slice A2 ys.length c2] :: Own S u A2 c2 ly2 ys :: L)) (ho : ops[i]? = some ⟨some d, .call { callee := .builtin .append, args := #[x, y], argTypes := #[t, t] }, ty, ps, af, none⟩) (hx : ev e x = some (.slice A xs.length c)) (hy : ev e y = some (.slice (some ⟨b, 0, none⟩) 1 1))
    (ht : P.underlying t = some (.slice el)) (hinf : (P.info? el).map (fun i => (i.zero, i.size, i.bytes)) = some (some z, 1, bytes)) (hz : (z.cells.size == 1) = true) (hb0 : Nat.blt 0 bytes = true) (hm : (xs.length + 1) * bytes ≤ 140737488355328) (hN : Nat.blt d N = true)
    (g : ∀ A' c' (ly' : Nat → SLay S.Lay) w', St w0 w' (Own (Ty.slice u S) el A' c' ly' (xs ++ [ys]) :: Box b tb [.slice A2 ys.length c2] :: L) → GO P N ops rest ((d, .slice A' (xs ++ [ys]).length c') :: e) w' Q) : GO P N ops (i :: rest) e w Q := by
  obtain ⟨inf, hi, hzz⟩ := Option.map_eq_some_iff.1 hinf
  simp only [Prod.mk.injEq] at hzz
  obtain ⟨hz0, hz1, hz2⟩ := hzz
  have hb0' : 0 < bytes := Nat.le_of_ble_eq_true hb0
  have hmm : xs.length + 1 ≤ 140737488355328 := Nat.le_trans (Nat.le_mul_of_pos_right _ hb0') hm
  obtain ⟨hbel, q, r, hq, hr, hqr, ⟨q1, q2, h1, h2, hd, hown, hb, hs⟩, qb, rb, hqb, hrb, hbd, ⟨hbq, hbx⟩, qe, re, hqe, hre, hed, hoe, hL⟩ := HS
  have hcells : ∀ m v, ([.slice A2 ys.length c2] : List Value)[m]? = some v → w.cell? ((⟨b, 0, none⟩ : Addr).add m) = some v := fun m v hv => by
    rw [addr_off, Nat.zero_add, cell_of_row w b m _ tb (0, 0) hbx]
    simpa using hv
  obtain ⟨v', w', hrn, hown', hg, hat⟩ := run_append_o (P := P) w t ty el inf z 1 bytes ht hi hz0 hz1 hz2 (by simpa using hz) (by decide) _ _ _ hown ⟨b, 0, none⟩ 1 1 [.slice A2 ys.length c2] rfl hcells (fun v hv => by rw [List.mem_singleton.1 hv]; rfl) (by simp only [maxLen]; omega) hm
  obtain ⟨A', c', rfl⟩ := hown'.slice
  let ly' : Nat → SLay S.Lay := fun k => if k = xs.length then ⟨A2, c2, ly2⟩ else ly k
  have hlen : xs.length + 1 = (xs ++ [ys]).length := by simp
  have hcg : rc (Ty.slice u S) ly 0 xs = rc (Ty.slice u S) ly' 0 xs := rc_congr (fun k _ hk => by simp only [ly']; rw [if_neg (by omega)])
  have hrc : rc (Ty.slice u S) ly 0 xs ++ [.slice A2 ys.length c2] = rc (Ty.slice u S) ly' 0 (xs ++ [ys]) := by
    refine (congrArg (· ++ [Value.slice A2 ys.length c2]) hcg).trans ((rc_append (T := Ty.slice u S) (ly := ly') 0 xs [ys]).trans ?_).symm
    refine congrArg (rc (Ty.slice u S) ly' 0 xs ++ ·) ?_
    simp [rc, ly']
  rw [hrc, hlen] at hown'
  rw [hlen] at hrn hat
  refine GO.val _ ho rfl rfl hN (fun a hs => by simp only [execOp, resolve, invoke, builtin, Sem.run_bind, Sem.run_pure, Result.andThen_ok, List.map_toArray, List.map_cons, List.map_nil, hs.ev hx, hs.ev hy, hrn]) (g A' c' ly' w' ?_)
  have hkeep : ∀ k, k < w.heap.size → ¬ q1 k → w'.heap[k]? = w.heap[k]? := fun k hk hn => hg.block k hk (fun e => hn (hb k e.symm))
  have hlt := hown'.lt
  refine ⟨hbel.trans ⟨hg.os, hg.tape, hg.output, hg.size, fun k hk => hkeep k (Nat.lt_of_lt_of_le hk hbel.size) (fun hk1 => by have := hq k (h1 k hk1); omega)⟩, fun k => q k ∨ qe k ∨ (w.heap.size ≤ k ∧ k < w'.heap.size), fun k => qb k ∨ re k, ?_, ?_, ?_, ⟨fun k => q1 k ∨ (w.heap.size ≤ k ∧ k < w'.heap.size), fun k => q2 k ∨ qe k, ?_, ?_, ?_, hown', ?_, ?_⟩, qb, re, fun k hk => .inl hk, fun k hk => .inr hk, ?_, ⟨hbq, ?_⟩, ?_⟩
  · intro k hk
    have hsz := hg.size
    have hB := hbel.size
    rcases hk with hk | hk | hk
    · have := hq k hk; omega
    · have := hr k (hrb k (hqe k hk)); omega
    · omega
  · intro k hk
    have hsz := hg.size
    rcases hk with hk | hk
    · have := hr k (hqb k hk); omega
    · have := hr k (hrb k (hre k hk)); omega
  · intro k hk hn
    rcases hk with hk | hk | hk
    · rcases hn with hn | hn
      · exact hqr k hk (hqb k hn)
      · exact hqr k hk (hrb k (hre k hn))
    · rcases hn with hn | hn
      · exact hbd k hn (hqe k hk)
      · exact hed k hk hn
    · rcases hn with hn | hn
      · have := hr k (hqb k hn); omega
      · have := hr k (hrb k (hre k hn)); omega
  · intro k hk; rcases hk with hk | hk
    · exact .inl (h1 k hk)
    · exact .inr (.inr hk)
  · intro k hk; rcases hk with hk | hk
    · exact .inl (h2 k hk)
    · exact .inr (.inl hk)
  · intro k hk hn
    rcases hk with hk | hk
    · rcases hn with hn | hn
      · exact hd k hk hn
      · exact hqr k (h1 k hk) (hrb k (hqe k hn))
    · rcases hn with hn | hn
      · have := hq k (h2 k hn); omega
      · have := hr k (hrb k (hqe k hn)); omega
  · intro k hk
    rcases hat k hk with e | e
    · exact .inl (hb k e)
    · exact .inr ⟨e, hlt k hk⟩
  · have hs1 : SepM (Ty.slice u S) w' ly' 0 xs q2 := (hs.loc (fun k hk => hkeep k (hq k (h2 k hk)).2 (fun h => hd k h hk))).congr (fun k _ hk => by simp only [ly']; rw [if_neg (by omega)])
    refine SepM.snoc hs1 ?_ (fun k hk hn => hqr k (h2 k hk) (hrb k (hqe k hn)))
    show OwnP S u (ly' (0 + xs.length)).A (ly' (0 + xs.length)).c (ly' (0 + xs.length)).ly ys w' qe
    have : ly' (0 + xs.length) = ⟨A2, c2, ly2⟩ := by simp [ly']
    rw [this]
    exact OwnP.loc hoe (fun k hk => hkeep k (hr k (hrb k (hqe k hk))).2 (fun h => hqr k (h1 k h) (hrb k (hqe k hk))))
  · intro k hk hn; exact hbd k hk (hre k hn)
  · rw [hkeep b (hr b (hqb b hbq)).2 (fun h => hqr b (h1 b h) (hqb b hbq))]; exact hbx
  · exact hL.loc (fun k hk => hkeep k (hr k (hrb k (hre k hk))).2 (fun h => hqr k (h1 k h) (hrb k (hre k hk))))
end
end Go.Proofs.YtbjfinndngafoaaGreat
