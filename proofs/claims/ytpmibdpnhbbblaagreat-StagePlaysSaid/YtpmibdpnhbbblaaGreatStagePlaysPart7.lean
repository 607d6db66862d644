/- Parts of the proofs of the statements of this seat: StagezS6, StagezS7, StagezS8, StagezS9, StagezSA, StagezDiffT1, StagezDiffT2, StagezDiffT3, StagezDiffT4, StagezDiffT5, StagezDiffT6, StagezDiffT7, StagezDiffT8, StagezDiffT9, StagezU1, StagezU2, StagezU3, StagezU4, StagezU5, StagezU6, StagezU7, StagezU8, StagezU9, WStagePlays. No conditions. -/
import Derived.Test.YtpmibdpnhbbblaaGreatStagePlaysPart6
import Derived.Test.YtpmibdpnhbbblaaGreatStagePlaysPart4
import Derived.Test.YtpmibdpnhbbblaaGreatStagePlaysPart5
set_option linter.unusedVariables false
set_option linter.unusedSimpArgs false

/- Diff: Compact at whole numbers. -/
set_option linter.unusedVariables false
set_option linter.unusedSimpArgs false
namespace Go.Am
open Classical
variable {m : Mem}

/-- Of a row that is at b: a number in it. -/
theorem iload {M : Mem} {b k : Nat} {A : List Int} {rest : List Value} (hm : M.blk b = some (.cells (intsZ A ++ rest) (some 1))) (hk : k < A.length) : aLoad false 1 M (.pointer (some ⟨b, k, none⟩)) = some (.int .i64 A[k]) := by
  rw [load_w, hm]
  show (intsZ A ++ rest)[k]? = _
  rw [List.getElem?_append_left (by rw [intsZ_len']; exact hk), intsZ_getq hk]

theorem compL_none : ∀ {l : List Int} , (∀ t (h : t + 1 < l.length), l[t] ≠ l[t + 1]) → compL l = l
  | [], _ => rfl
  | [a], _ => rfl
  | a :: b :: r, h => by
    simp only [compL]
    rw [if_neg (show ¬ a = b from h 0 (by simp)), compL_none fun t ht => h (t + 1) (by simpa using ht)]

theorem iidx {b o n c k : Nat} (hk : k < n) : aIdxS 1 (.slice (some ⟨b, o, none⟩) n c) (.int .i64 k) = some (.pointer (some ⟨b, o + k, none⟩)) := by
  simp only [aIdxS]
  rw [if_pos (by omega)]; simp

/-- The inner loop of Compact: what is met again is passed by. -/
theorem compact_inner {M0 : Mem} {l : List Int} {b c k0 : Nat} {rest : List Value} (hk0 : 0 < k0) (hl : l.length ≤ 3000000) (hkl : k0 < l.length) (heq : l[k0 - 1] = l[k0]) (hno : ∀ t (h : t + 1 < k0), l[t]'(by omega) ≠ l[t + 1]'(by omega))
    (hm : M0.blk b = some (.cells (intsZ l ++ rest) (some 1))) :
    WL R [0, 3, 4, 5] RB.slices_Compact_int_int_1 [(0, .slice (some ⟨b, 0, none⟩) l.length c), (3, .int .i64 k0), (4, .slice (some ⟨b, k0, none⟩) (l.length - k0) (c - k0)), (5, .int .i64 1)] M0 fun y e m' =>
      y = .exit 2 ∧ Upd M0 m' [b] ∧ ∃ (mid : List Value) (rs : Env), (compL l).length + mid.length = l.length ∧ m'.blk b = some (.cells (intsZ (compL l) ++ mid ++ rest) (some 1)) ∧ e = (0, .slice (some ⟨b, 0, none⟩) l.length c) :: (3, .int .i64 (compL l).length) :: rs := by
  have w1 : ∀ k : Nat, k < 3000000 → IntKind.wrap .i64 ((k : Int) + 1) = ((k + 1 : Nat) : Int) := fun k hk => by rw [wrap_i64 (by omega) (by omega)]; rfl
  have wm : ∀ k : Nat, 0 < k → k < 3000001 → IntKind.wrap .i64 ((k : Int) - 1) = ((k - 1 : Nat) : Int) := fun k hk h2 => by rw [wrap_i64 (by omega) (by omega)]; omega
  have hstart : compL (l.take (k0 + 1)) = l.take k0 := by
    have := compL_take hk0 hkl
    rw [if_pos heq, List.append_nil] at this
    rw [this]
    refine compL_none fun t ht => ?_
    rw [List.length_take] at ht
    rw [List.getElem_take, List.getElem_take]
    exact hno t (by omega)
  have hsplit : ∀ j (hj : j < l.length), intsZ (l.drop j) = .int .i64 l[j] :: intsZ (l.drop (j + 1)) := fun j hj => by
    rw [List.drop_eq_getElem_cons hj]; rfl
  refine WL.of (fun n e m' => ∃ (j : Nat) (mid : List Value), k0 < j ∧ j ≤ l.length ∧ n = l.length - j ∧ (compL (l.take j)).length + mid.length + 1 = j ∧
      m'.blk b = some (.cells (intsZ (compL (l.take j)) ++ mid ++ (.int .i64 (l[j - 1]!) :: intsZ (l.drop j) ++ rest)) (some 1)) ∧ Upd M0 m' [b] ∧
      e = [(0, .slice (some ⟨b, 0, none⟩) l.length c), (3, .int .i64 (compL (l.take j)).length), (4, .slice (some ⟨b, k0, none⟩) (l.length - k0) (c - k0)), (5, .int .i64 (j - k0 : Nat))]) (l.length - (k0 + 1))
    ⟨k0 + 1, [], by omega, by omega, rfl, ?_, ?_, Upd.refl _ _, ?_⟩ ?_
  · rw [hstart, List.length_take]; simp; omega
  · rw [hm, hstart]
    congr 2
    have e : intsZ l = intsZ (l.take k0) ++ intsZ (l.drop k0) := by unfold intsZ; rw [← List.map_append, List.take_append_drop]
    rw [e, hsplit k0 hkl, show k0 + 1 - 1 = k0 by omega, getElem!_pos l k0 hkl]
    simp
  · rw [hstart, List.length_take, Nat.min_eq_left (by omega), show k0 + 1 - k0 = 1 by omega]; rfl
  rintro _ _ m2 ⟨j, mid, hj0, hj, rfl, hlen, hm2, hu, rfl⟩
  have hlen1 : l[j - 1]! = l[j - 1]'(by omega) := getElem!_pos l (j - 1) (by omega)
  rw [hlen1] at hm2
  simp only [RB.slices_Compact_int_int_1, go_sem, len_s]
  by_cases g1 : j < l.length
  · have e1 : decide (((j - k0 : Nat) : Int) < ((l.length - k0 : Nat) : Int)) = true := decide_eq_true (by omega)
    have hA : (intsZ (compL (l.take j))).length = (compL (l.take j)).length := intsZ_len'
    have i1 := iidx (b := b) (o := k0) (n := l.length - k0) (c := c - k0) (k := j - k0) (by omega)
    have i2 := iidx (b := b) (o := k0) (n := l.length - k0) (c := c - k0) (k := j - k0 - 1) (by omega)
    rw [show k0 + (j - k0) = j by omega] at i1
    rw [show k0 + (j - k0 - 1) = j - 1 by omega] at i2
    have a1 : aLoad false 1 m2 (.pointer (some ⟨b, j, none⟩)) = some (.int .i64 l[j]) := by
      rw [load_w, hm2, hsplit j g1]
      show (intsZ (compL (l.take j)) ++ mid ++ _)[j]? = _
      rw [List.getElem?_append_right (by rw [List.length_append, hA]; omega), List.length_append, hA, show j - ((compL (l.take j)).length + mid.length) = 1 by omega]; rfl
    have a2 : aLoad false 1 m2 (.pointer (some ⟨b, j - 1, none⟩)) = some (.int .i64 (l[j - 1]'(by omega))) := by
      rw [load_w, hm2]
      show (intsZ (compL (l.take j)) ++ mid ++ _)[j - 1]? = _
      rw [List.getElem?_append_right (by rw [List.length_append, hA]; omega), List.length_append, hA, show j - 1 - ((compL (l.take j)).length + mid.length) = 0 by omega]; rfl
    have ct := compL_take (l := l) (j := j) (by omega) g1
    simp only [go_sem, e1, i1, a1, wm (j - k0) (by omega) (by omega), i2, a2]
    obtain ⟨x0, M2, hM⟩ : ∃ x0 M2, mid ++ [Value.int .i64 (l[j - 1]'(by omega))] = x0 :: M2 := by
      cases mid with
      | nil => exact ⟨_, _, rfl⟩
      | cons x r => exact ⟨_, _, rfl⟩
    have hMl : M2.length = mid.length := by have := congrArg List.length hM; simp at this; omega
    have hm2' : m2.blk b = some (.cells (intsZ (compL (l.take j)) ++ x0 :: (M2 ++ (.int .i64 l[j] :: intsZ (l.drop (j + 1)) ++ rest))) (some 1)) := by
      rw [hm2, hsplit j g1]
      congr 2
      have : intsZ (compL (l.take j)) ++ mid ++ (Value.int .i64 (l[j - 1]'(by omega)) :: (Value.int .i64 l[j] :: intsZ (l.drop (j + 1))) ++ rest) = intsZ (compL (l.take j)) ++ ((mid ++ [Value.int .i64 (l[j - 1]'(by omega))]) ++ (Value.int .i64 l[j] :: intsZ (l.drop (j + 1)) ++ rest)) := by simp
      rw [this, hM]; rfl
    have hj1 : l[j + 1 - 1]! = l[j] := getElem!_pos l j g1
    have hcl := compL_len (l := l.take j)
    rw [List.length_take] at hcl
    refine gT.of (fun g2 => ?_) (fun g2 => ?_)
    · have hne : l[j - 1]'(by omega) ≠ l[j] := fun e => by rw [bne_iff_ne] at g2; exact g2 e.symm
      rw [if_neg hne] at ct
      have i3 := iidx (b := b) (o := 0) (n := l.length) (c := c) (k := (compL (l.take j)).length) (by omega)
      rw [Nat.zero_add] at i3
      have hw := istore (C := []) (y := .int .i64 l[j]) hm2' hA rfl rfl
      simp only [go_sem, g2, i1, a1, i3, hw, w1 (compL (l.take j)).length (by omega), w1 (j - k0) (by omega)]
      refine ⟨l.length - (j + 1), by omega, j + 1, M2, by omega, by omega, rfl, ?_, ?_, hu.trans (Upd.set (fp := [b]) (by simp)) (fun _ h => h) (fun _ h => .inl h), ?_⟩
      · rw [ct, List.length_append]; simp; omega
      · simp only [Mem.set, if_true]
        rw [ct, hj1]
        congr 2
        unfold intsZ; simp
      · rw [ct, List.length_append, show j + 1 - k0 = j - k0 + 1 by omega]; rfl
    · have heq2 : l[j - 1]'(by omega) = l[j] := by
        rw [bne_eq_false_iff_eq] at g2; exact g2.symm
      rw [if_pos heq2, List.append_nil] at ct
      simp only [go_sem, g2, w1 (j - k0) (by omega)]
      refine ⟨l.length - (j + 1), by omega, j + 1, mid ++ [.int .i64 (l[j - 1]'(by omega))], by omega, by omega, rfl, ?_, ?_, hu, ?_⟩
      · rw [ct, List.length_append]; simp; omega
      · rw [hm2, ct, hj1, hsplit j g1]
        congr 2
        simp
      · rw [ct, show j + 1 - k0 = j - k0 + 1 by omega]
  · have e1 : decide (((j - k0 : Nat) : Int) < ((l.length - k0 : Nat) : Int)) = false := decide_eq_false (by omega)
    have hjl : j = l.length := by omega
    subst hjl
    rw [List.take_length] at hm2 hlen ⊢
    rw [List.drop_length] at hm2
    simp only [go_sem, e1]
    exact ⟨hu, mid ++ [.int .i64 (l[l.length - 1]'(by omega))], _, by simp; omega, by rw [hm2]; simp [intsZ], rfl⟩
end Go.Am


/- Diff: Compact. -/
set_option linter.unusedVariables false
set_option linter.unusedSimpArgs false
namespace Go.Am
open Classical
variable {m : Mem}

set_option maxHeartbeats 4000000 in
theorem Compact_spec {l : List Int} {v : Value} {m0 : Mem} (ho : Own m0 m 1 l.length (intsZ l) v) (hx0 : Ext m0 m) (hl : l.length ≤ 3000000) :
    WC R F.slices_Compact_int_int [v] m fun r m' => Own m0 m' 1 (compL l).length (intsZ (compL l)) r ∧ Ext m0 m' := by
  refine WC.of R.slices_Compact_int_int rfl ?_
  simp only [RC.slices_Compact_int_int, go_sem, ho.sl.len]
  have short : l.length < 2 → compL l = l := fun h => compL_none fun t ht => by omega
  refine gT.of (fun g0' => ?_) (fun g0' => ?_) <;> (have g0 := g0'; try simp only [decide_eq_true_eq, decide_eq_false_iff_not, beq_iff_eq, bne_iff_ne, beq_eq_false_iff_ne, ne_eq, Bool.not_eq_true', Bool.not_eq_false', bne_eq_false_iff_eq, Int.not_lt, Int.not_le] at g0)
  · simp only [go_sem, g0']
    rw [short (by omega)]
    exact ⟨ho, hx0⟩
  · simp only [go_sem, g0']
    cases ho with
    | nil h hc => omega
    | @«at» b c all hb hb2 hnc hm hal hcs hone =>
      have hall : all = intsZ l ++ all.drop l.length := by
        rw [Nat.mul_one] at hcs
        rw [← hcs, List.take_append_drop]
      generalize hrest : all.drop l.length = rest at hall
      have w1 : ∀ k : Nat, k < 3000000 → IntKind.wrap .i64 ((k : Int) + 1) = ((k + 1 : Nat) : Int) := fun k hk => by rw [wrap_i64 (by omega) (by omega)]; rfl
      have wm : ∀ k : Nat, 0 < k → k < 3000001 → IntKind.wrap .i64 ((k : Int) - 1) = ((k - 1 : Nat) : Int) := fun k hk h2 => by rw [wrap_i64 (by omega) (by omega)]; omega
      rw [hall] at hm
      refine WL.of (fun n e m' => ∃ k : Nat, 0 < k ∧ k ≤ l.length ∧ n = l.length - k ∧ m' = m ∧ e = [(0, .slice (some ⟨b, 0, none⟩) l.length c), (3, .int .i64 k)] ∧ ∀ t (h : t + 1 < k) (h2 : k ≤ l.length), l[t]'(by omega) ≠ l[t + 1]'(by omega)) (l.length - 1)
        ⟨1, by omega, by omega, rfl, rfl, by simp only [go_sem] <;> rfl, fun t h => by omega⟩ ?_
      rintro _ _ _ ⟨k, hk0, hk, rfl, hmm, rfl, hno⟩
      replace hmm := hmm.symm
      subst hmm
      simp only [RB.slices_Compact_int_int_2, go_sem, len_s]
      by_cases g1 : k < l.length
      · have e1 : decide ((k : Int) < (l.length : Int)) = true := decide_eq_true (by omega)
        have i1 := iidx (b := b) (o := 0) (n := l.length) (c := c) (k := k) g1
        have i2 := iidx (b := b) (o := 0) (n := l.length) (c := c) (k := k - 1) (by omega)
        rw [Nat.zero_add] at i1 i2
        have a1 := iload hm g1
        have a2 := iload (k := k - 1) hm (by omega)
        simp only [go_sem, e1, i1, a1, wm k hk0 (by omega), i2, a2]
        refine gT.of (fun g2 => ?_) (fun g2 => ?_)
        · have heq : l[k - 1]'(by omega) = l[k] := by rw [beq_iff_eq] at g2; exact g2.symm
          have hun : unitOk 1 m b = true := unitOk_own hm
          have cs1 := sub_from (m := m) (b := b) (o := 0) (n := l.length) (c := c) (u := 1) (k := .i64) (i := k) hun hk hnc
          rw [Nat.zero_add, Nat.mul_one] at cs1
          simp only [go_sem, g2, cs1]
          refine WL.mono (compact_inner hk0 hl g1 heq (fun t h => hno t h hk) hm) ?_
          rintro _ _ m2 ⟨rfl, hu, mid, rs, hlen, hm2, rfl⟩
          obtain ⟨M', c1, c2, c3, Z, z1, z2, z3⟩ := tail_cut (c := c) (n := l.length) (k := (compL l).length) hm2 intsZ_len' (by omega) (by omega) hnc
          simp only [go_sem, c1, c2, c3]
          have hx2 : Ext m0 m2 := hu.ext_of hx0 (by simpa using hb)
          refine ⟨.at (all := intsZ (compL l) ++ Z ++ rest) hb (Nat.lt_of_lt_of_le hb2 (Nat.le_trans hu.next z3.next)) (by omega) z2 ?_ ?_ intsZ_one, z3.ext_of hx2 (by simpa using hb)⟩
          · have : rest.length = all.length - l.length := by rw [← hrest, List.length_drop]
            simp only [List.length_append, intsZ_len', z1, this, hal]; omega
          · rw [Nat.mul_one, List.append_assoc, List.take_left' intsZ_len']
        · have hne : l[k - 1]'(by omega) ≠ l[k] := fun e => by rw [beq_eq_false_iff_ne] at g2; exact g2 e.symm
          simp only [go_sem, g2, w1 k (by omega)]
          refine ⟨l.length - (k + 1), by omega, k + 1, by omega, by omega, rfl, rfl, fun t h h2 => ?_⟩
          by_cases e : t + 1 = k
          · have : t = k - 1 := by omega
            subst this
            have e3 : k - 1 + 1 = k := by omega
            simp only [e3]; exact hne
          · exact hno t (by omega) hk
      · have e1 : decide ((k : Int) < (l.length : Int)) = false := decide_eq_false (by omega)
        have hkl : k = l.length := by omega
        subst hkl
        simp only [go_sem, e1]
        rw [compL_none fun t h => hno t h (Nat.le_refl _)]
        exact ⟨.at (all := all) hb hb2 hnc (by rw [hm, hall]) hal hcs hone, hx0⟩
end Go.Am


/- Diff: the units of two plans that something holds of. -/
set_option linter.unusedVariables false
set_option linter.unusedSimpArgs false
namespace Go.Am
open Classical
variable {m : Mem}

theorem gV_cap3 {R : Nat → Option FEnt} {m : Mem} {Q : Value → Mem → Prop} {f : Nat} {vs : List Value} {a b c : Value} : gV R (.func (.func f) #[] #[a, b, c]) vs m Q = gC R f (vs ++ [a, b, c]) m Q := by
  refine propext ⟨?_, fun h => ⟨f, #[], #[a, b, c], rfl, by have h : WC R f (vs ++ [a, b, c]) m Q := h; simpa using h⟩⟩
  rintro ⟨_, _, _, h, k⟩
  cases h
  show WC R f (vs ++ [a, b, c]) m Q
  simpa using k

def e0 : PE := ⟨find0, .slice none 0 0, rfl⟩
noncomputable def lkE (l : List PE) (u : Int) : PE := (lkp (asMap l) u).getD e0
def hasE (l : List PE) (u : Int) : Bool := (lkp (asMap l) u).isSome
theorem lkE_mem {l : List PE} {u : Int} : lkE l u ∈ l ∨ lkE l u = e0 := by
  unfold lkE
  cases h : lkp (asMap l) u with
  | none => exact .inr rfl
  | some e =>
    refine .inl ?_
    show e ∈ l
    have : ∀ (L : List PE), lkp (asMap L) u = some e → e ∈ L := by
      intro L
      induction L with
      | nil => intro h; cases h
      | cons a L ih =>
        intro h
        simp only [asMap, List.map_cons, lkp] at h
        split at h
        · cases h; simp
        · exact List.mem_cons_of_mem _ (ih h)
    exact this l h

theorem some1_spec {M : Mem} {l k : List PE} {bl bk bf ql qk : Nat} {fv : Value} {P : PE → PE → Bool → Bool → Bool} {u : Int}
    (h1 : Bk m bl [.map (some ql)] 1) (h2 : Bk m bk [.map (some qk)] 1) (h3 : Bk m bf [fv] 1) (hl : Mp m ql eP (asMap l)) (hk : Mp m qk eP (asMap k)) (hM : Ext M m)
    (hp : ∀ m1 x y a b, Ext M m1 → (x ∈ l ∨ x = e0) → (y ∈ k ∨ y = e0) → gV R fv [eP x, eP y, .bool a, .bool b] m1 fun r m' => r = .bool (P x y a b) ∧ Ext m1 m') :
    WC R F.diff_some_1 [.int .i64 u, .pointer (some ⟨bl, 0, none⟩), .pointer (some ⟨bk, 0, none⟩), .pointer (some ⟨bf, 0, none⟩)] m fun r m' => r = .bool (!P (lkE l u) (lkE k u) (hasE l u) (hasE k u)) ∧ Ext m m' := by
  refine WC.of R.diff_some_1 rfl ?_
  have lk1 := hl.look_ok (x := u) (z := e0)
  change aLook .int (.agg #[.int .i64 0, .int .i64 0, .int .i64 0, .slice none 0 0]) true m _ _ = some (.tuple #[.agg #[.int .i64 (lkE l u).pl.unit, .int .i64 (lkE l u).pl.share, .int .i64 (lkE l u).pl.core, (lkE l u).pv], .bool (hasE l u)]) at lk1
  have o1 := (lkE l u).one
  have o2 := (lkE k u).one
  have hn2 := h2.ne
  have hn3 := h3.ne
  simp only [RC.diff_some_1, go_sem, ruB, h1.at_, lk1, aExt0, aExt1, o1, hn2, h2.at_]
  have hx1 : Ext m (m.new (.cells [.int .i64 (lkE l u).pl.unit, .int .i64 (lkE l u).pl.share, .int .i64 (lkE l u).pl.core, (lkE l u).pv] (some 4))) := Ext.new
  have hb1 : Bk (m.new (.cells [.int .i64 (lkE l u).pl.unit, .int .i64 (lkE l u).pl.share, .int .i64 (lkE l u).pl.core, (lkE l u).pv] (some 4))) m.next [.int .i64 (lkE l u).pl.unit, .int .i64 (lkE l u).pl.share, .int .i64 (lkE l u).pl.core, (lkE l u).pv] 4 := Bk.new
  generalize m.new (.cells [.int .i64 (lkE l u).pl.unit, .int .i64 (lkE l u).pl.share, .int .i64 (lkE l u).pl.core, (lkE l u).pv] (some 4)) = m1 at hx1 hb1 ⊢
  have h21 := h2.keep hx1
  have h31 := h3.keep hx1
  have lk2 := (hk.keep hx1).look_ok (x := u) (z := e0)
  change aLook .int (.agg #[.int .i64 0, .int .i64 0, .int .i64 0, .slice none 0 0]) true m1 _ _ = some (.tuple #[.agg #[.int .i64 (lkE k u).pl.unit, .int .i64 (lkE k u).pl.share, .int .i64 (lkE k u).pl.core, (lkE k u).pv], .bool (hasE k u)]) at lk2
  have hn31 := h31.ne
  have hbn1 := hb1.ne
  try simp only [go_sem, ruB, h21.at_, lk2, aExt0, aExt1, o2, hn31, h31.at_, hbn1, hb1.at_]
  have hx2 : Ext m1 (m1.new (.cells [.int .i64 (lkE k u).pl.unit, .int .i64 (lkE k u).pl.share, .int .i64 (lkE k u).pl.core, (lkE k u).pv] (some 4))) := Ext.new
  have hb2 : Bk (m1.new (.cells [.int .i64 (lkE k u).pl.unit, .int .i64 (lkE k u).pl.share, .int .i64 (lkE k u).pl.core, (lkE k u).pv] (some 4))) m1.next [.int .i64 (lkE k u).pl.unit, .int .i64 (lkE k u).pl.share, .int .i64 (lkE k u).pl.core, (lkE k u).pv] 4 := Bk.new
  generalize m1.new (.cells [.int .i64 (lkE k u).pl.unit, .int .i64 (lkE k u).pl.share, .int .i64 (lkE k u).pl.core, (lkE k u).pv] (some 4)) = m2 at hx2 hb2 ⊢
  have h32 := h31.keep hx2
  have hb12 := hb1.keep hx2
  try simp only [go_sem, ruB, h32.at_, hb12.at_, hb2.at_]
  refine gV.of (hp m2 (lkE l u) (lkE k u) (hasE l u) (hasE k u) ((hM.trans hx1).trans hx2) lkE_mem lkE_mem) ?_
  rintro _ m3 ⟨rfl, hx3⟩
  try simp only [go_sem, ruB]
  exact (hx1.trans hx2).trans hx3
end Go.Am


/- Diff: some. -/
set_option linter.unusedVariables false
set_option linter.unusedSimpArgs false
namespace Go.Am
open Classical
variable {m : Mem}

noncomputable def someL (l k : List PE) (P : PE → PE → Bool → Bool → Bool) : List Int :=
  (compL (sortI (sortI (l.map unitE) ++ sortI (k.map unitE)))).filter fun u => P (lkE l u) (lkE k u) (hasE l u) (hasE k u)

structure OkE (l : List PE) : Prop where
  wf : ∀ e ∈ l, (Lit.int .i64 (unitE e)).wf = true
  nd : (l.map unitE).Nodup
  len : l.length ≤ 1000

set_option maxHeartbeats 4000000 in
theorem some_spec {l k : List PE} {f g : Int} {c d : BitVec 32} {pv kv fv : Value} {P : PE → PE → Bool → Bool → Bool} (hs : RowS m l pv) (hk : RowS m k kv) (ol : OkE l) (ok : OkE k) (hfv : ∃ n, fv = .func (.func n) #[] #[])
    (hp : ∀ m1 x y a b, Ext m m1 → (x ∈ l ∨ x = e0) → (y ∈ k ∨ y = e0) → gV R fv [eP x, eP y, .bool a, .bool b] m1 fun r m' => r = .bool (P x y a b) ∧ Ext m1 m') :
    WC R F.diff_some [.agg #[.int .i64 f, u32 c, pv], .agg #[.int .i64 g, u32 d, kv], fv] m fun r m' => Own m m' 1 (someL l k P).length (intsZ (someL l k P)) r ∧ Ext m m' := by
  refine WC.of R.diff_some rfl ?_
  obtain ⟨fn, rfl⟩ := hfv
  simp only [RC.diff_some, go_sem, hs.sl.one, hk.sl.one]
  refine ⟨rfl, ?_⟩
  have hx1 : Ext m (m.new (.cells [.int .i64 f, u32 c, pv] (some 3))) := Ext.new
  have hb1 : Bk (m.new (.cells [.int .i64 f, u32 c, pv] (some 3))) m.next [.int .i64 f, u32 c, pv] 3 := Bk.new
  generalize m.new (.cells [.int .i64 f, u32 c, pv] (some 3)) = m1 at hx1 hb1 ⊢
  have hx2 : Ext m1 (m1.new (.cells [.int .i64 g, u32 d, kv] (some 3))) := Ext.new
  have hb2 : Bk (m1.new (.cells [.int .i64 g, u32 d, kv] (some 3))) m1.next [.int .i64 g, u32 d, kv] 3 := Bk.new
  generalize m1.new (.cells [.int .i64 g, u32 d, kv] (some 3)) = m2 at hx2 hb2 ⊢
  have hx3 : Ext m2 (m2.new (.cells [.func (.func fn) #[] #[]] (some 1))) := Ext.new
  have hb3 : Bk (m2.new (.cells [.func (.func fn) #[] #[]] (some 1))) m2.next [.func (.func fn) #[] #[]] 1 := Bk.new
  generalize m2.new (.cells [.func (.func fn) #[] #[]] (some 1)) = m3 at hx3 hb3 ⊢
  have hb13 := (hb1.keep hx2).keep hx3
  have hb23 := hb2.keep hx3
  have hX := (hx1.trans hx2).trans hx3
  have hs3 := hs.keep hX
  have hk3 := hk.keep hX
  try simp only [go_sem, ruB, hb13.at_, hb23.at_]
  have hbu : Ext m3 (m3.bump 8) := Ext.bump
  refine gC.of (places_spec (hs3.keep hbu) (by have := ol.len; omega) ol.nd) ?_
  rintro _ m4 ⟨q1, rfl, hM1, hq1, hx4⟩
  have hx34 := hbu.trans hx4
  have hb24 := hb23.keep hx34
  have hb34 := hb3.keep hx34
  have hkk : m4.blk m1.next = (m3.bump 8).blk m1.next := hx4.same m1.next (by have := hb23.lt; show m1.next < m3.next + 8; omega)
  try simp only [go_sem, ruB, watchOk_cons, watchOk_nil, blkOf_ptr, hkk]
  refine gC.of (places_spec (hk3.keep hx34) (by have := ok.len; omega) ok.nd) ?_
  rintro _ m5 ⟨q2, rfl, hM2, hq2, hx5⟩
  have hbp : (m3.bump 8).next = m3.next + 8 := rfl
  have hn4 := hx4.next
  have hn5 := hx5.next
  have nn : (m3.next = m3.next + 1) = False := eq_false (by omega)
  have nn2 : (m3.next + 1 = m3.next) = False := eq_false (by omega)
  have nn3 : (m3.next + 4 = m3.next + 5) = False := eq_false (by omega)
  have nn4 : (m3.next + 5 = m3.next + 4) = False := eq_false (by omega)
  try simp only [go_sem, ruB, nn, nn2, nn3, nn4]
  have hb35 := hb34.keep hx5
  have hx05 : Ext m m5 := hX.trans (hx34.trans hx5)
  have hU6 : Upd m5 ((((m5.set (m3.next + 4) (some (.cells [.map none] (some 1)))).set (m3.next + 5) (some (.cells [.map none] (some 1)))).set (m3.next + 4) (some (.cells [.map (some q1)] (some 1)))).set (m3.next + 5) (some (.cells [.map (some q2)] (some 1)))) [m3.next + 4, m3.next + 5] := by
    have tr : ∀ {a b c : Mem}, Upd a b [m3.next + 4, m3.next + 5] → Upd b c [m3.next + 4, m3.next + 5] → Upd a c [m3.next + 4, m3.next + 5] := fun h k => h.trans k (fun _ h => h) (fun _ h => .inl h)
    exact tr (tr (tr (Upd.set (by simp)) (Upd.set (by simp))) (Upd.set (by simp))) (Upd.set (by simp))
  have hd6 : Bk ((((m5.set (m3.next + 4) (some (.cells [.map none] (some 1)))).set (m3.next + 5) (some (.cells [.map none] (some 1)))).set (m3.next + 4) (some (.cells [.map (some q1)] (some 1)))).set (m3.next + 5) (some (.cells [.map (some q2)] (some 1)))) (m3.next + 4) [.map (some q1)] 1 := ⟨by simp [Mem.set], by simp [Mem.set]; omega⟩
  have he6 : Bk ((((m5.set (m3.next + 4) (some (.cells [.map none] (some 1)))).set (m3.next + 5) (some (.cells [.map none] (some 1)))).set (m3.next + 4) (some (.cells [.map (some q1)] (some 1)))).set (m3.next + 5) (some (.cells [.map (some q2)] (some 1)))) (m3.next + 5) [.map (some q2)] 1 := ⟨by simp [Mem.set], by simp [Mem.set]; omega⟩
  generalize (((m5.set (m3.next + 4) (some (.cells [.map none] (some 1)))).set (m3.next + 5) (some (.cells [.map none] (some 1)))).set (m3.next + 4) (some (.cells [.map (some q1)] (some 1)))).set (m3.next + 5) (some (.cells [.map (some q2)] (some 1))) = m6 at hU6 hd6 he6 ⊢
  have hb3l := hb3.lt
  have hb36 := hb35.upd hU6 (by simp; omega)
  have hM16 := (hM1.keep hx5).upd hU6 (by simp; omega)
  have hM26 := hM2.upd hU6 (by simp; omega)
  have hx06 : Ext m m6 := hU6.ext_of hx05 (by have := hX.next; simp; omega)
  refine gC.of keys_spec ?_
  rintro _ _ ⟨rfl, rfl⟩
  try simp only [go_sem, ruB]
  have hx7 : Ext m6 (m6.new (.cells [.map (some q1)] (some 1))) := Ext.new
  have hg7 : Bk (m6.new (.cells [.map (some q1)] (some 1))) m6.next [.map (some q1)] 1 := Bk.new
  generalize m6.new (.cells [.map (some q1)] (some 1)) = m7 at hx7 hg7 ⊢
  have hd7 := hd6.keep hx7
  have he7 := he6.keep hx7
  have hb37 := hb36.keep hx7
  have hM17 := hM16.keep hx7
  have hM27 := hM26.keep hx7
  have hx07 := hx06.trans hx7
  refine gC.of (sorted_spec hg7 hM17 ol.wf ol.nd (by have := ol.len; omega)) ?_
  rintro w m8 ⟨ho8, hx8, hf8⟩
  have he8 := he7.keep hx8
  try simp only [go_sem, ruB, he8.at_]
  refine gC.of keys_spec ?_
  rintro _ _ ⟨rfl, rfl⟩
  try simp only [go_sem, ruB]
  have hx9 : Ext m8 (m8.new (.cells [.map (some q2)] (some 1))) := Ext.new
  have hg9 : Bk (m8.new (.cells [.map (some q2)] (some 1))) m8.next [.map (some q2)] 1 := Bk.new
  generalize m8.new (.cells [.map (some q2)] (some 1)) = m9 at hx9 hg9 ⊢
  refine gC.of (sorted_spec hg9 ((hM27.keep hx8).keep hx9) ok.wf ok.nd (by have := ok.len; omega)) ?_
  rintro w2 m10 ⟨ho10, hx10, -⟩
  have hx710 := (hx8.trans hx9).trans hx10
  have ho8' := (ho8.keep hx9).keep hx10
  have hll := ol.len
  have hkl := ok.len
  obtain ⟨v3, m11, p1, p2, p3⟩ := ho8'.appAll (by_ := 8) hx710 ho10.sl intsZ_one (by omega) (by omega) hf8
  have hcat : intsZ (sortI (l.map unitE)) ++ intsZ (sortI (k.map unitE)) = intsZ (sortI (l.map unitE) ++ sortI (k.map unitE)) := by unfold intsZ; rw [List.map_append]
  have hcl : l.length + k.length = (sortI (l.map unitE) ++ sortI (k.map unitE)).length := by rw [List.length_append, sortI_len, sortI_len, List.length_map, List.length_map]
  rw [hcat, hcl] at p2
  try simp only [go_sem, ruB, p1]
  refine gC.of (Sort_spec p2 p3 (by omega)) ?_
  rintro _ m12 ⟨rfl, ho12, -, hx12⟩
  try simp only [go_sem, ruB]
  have hsl : (sortI (l.map unitE) ++ sortI (k.map unitE)).length = (sortI (sortI (l.map unitE) ++ sortI (k.map unitE))).length := by rw [sortI_len]
  rw [hsl] at ho12
  refine gC.of (Compact_spec ho12 hx12 (by rw [← hsl, ← hcl]; omega)) ?_
  rintro v4 m13 ⟨ho13, hx13⟩
  try simp only [go_sem, ruB]
  have hcm := compL_len (l := sortI (sortI (l.map unitE) ++ sortI (k.map unitE)))
  refine gC.of (iDeleteFunc (p := fun u => !P (lkE l u) (lkE k u) (hasE l u) (hasE k u)) ho13 hx13 (by rw [← hsl, ← hcl] at hcm; omega) (fun M x hxM => ?_)) ?_
  · rw [gV_cap3]
    exact some1_spec (hd7.keep hxM) (he7.keep hxM) (hb37.keep hxM) (hM17.keep hxM) (hM27.keep hxM) (Ext.refl _) (fun m1 x y a b hx h1 h2 => hp m1 x y a b (hx07.trans (hxM.trans hx)) h1 h2)
  · rintro r m14 ⟨ho14, hx14⟩
    try simp only [go_sem, ruB]
    have e : ((compL (sortI (sortI (l.map unitE) ++ sortI (k.map unitE)))).filter fun x => !(fun u => !P (lkE l u) (lkE k u) (hasE l u) (hasE k u)) x) = someL l k P := by
      unfold someL; simp
    rw [e] at ho14
    exact ⟨ho14.weak hx07, hx07.trans hx14⟩
end Go.Am


/- Diff: Moved. -/
set_option linter.unusedVariables false
set_option linter.unusedSimpArgs false
namespace Go.Am
open Classical
variable {m : Mem}

noncomputable def movP (x y : PE) : Bool := decide (x.pl.pieces ≠ y.pl.pieces) || (decide (x.pl.pieces.length = 0) && decide (x.pl.core ≠ y.pl.core))

set_option maxHeartbeats 4000000 in
theorem moved_spec {x y : PE} (hx : PcV m x.pl.pieces x.pv) (hy : PcV m y.pl.pieces y.pv) (lx : x.pl.pieces.length < 1000000) (ly : y.pl.pieces.length < 1000000) :
    WC R F.diff_moved [eP x, eP y] m fun r m' => r = .bool (movP x y) ∧ Ext m m' := by
  refine WC.of R.diff_moved rfl ?_
  have o1 := x.one
  have o2 := y.one
  simp only [RC.diff_moved, eP, peV, plV, go_sem, o1, o2]
  have hx1 : Ext m (m.new (.cells [.int .i64 x.pl.unit, .int .i64 x.pl.share, .int .i64 x.pl.core, x.pv] (some 4))) := Ext.new
  have hb1 : Bk (m.new (.cells [.int .i64 x.pl.unit, .int .i64 x.pl.share, .int .i64 x.pl.core, x.pv] (some 4))) m.next [.int .i64 x.pl.unit, .int .i64 x.pl.share, .int .i64 x.pl.core, x.pv] 4 := Bk.new
  generalize m.new (.cells [.int .i64 x.pl.unit, .int .i64 x.pl.share, .int .i64 x.pl.core, x.pv] (some 4)) = m1 at hx1 hb1 ⊢
  have hx2 : Ext m1 (m1.new (.cells [.int .i64 y.pl.unit, .int .i64 y.pl.share, .int .i64 y.pl.core, y.pv] (some 4))) := Ext.new
  have hb2 : Bk (m1.new (.cells [.int .i64 y.pl.unit, .int .i64 y.pl.share, .int .i64 y.pl.core, y.pv] (some 4))) m1.next [.int .i64 y.pl.unit, .int .i64 y.pl.share, .int .i64 y.pl.core, y.pv] 4 := Bk.new
  generalize m1.new (.cells [.int .i64 y.pl.unit, .int .i64 y.pl.share, .int .i64 y.pl.core, y.pv] (some 4)) = m2 at hx2 hb2 ⊢
  have hb12 := hb1.keep hx2
  have hx' := (hx.keep hx1).keep hx2
  have hy' := (hy.keep hx1).keep hx2
  try simp only [go_sem, ruB, hb12.at_, hb2.at_]
  refine gC.of (Equal_spec hx' hy' lx ly) ?_
  rintro _ m3 ⟨rfl, hm⟩
  subst hm
  by_cases h1 : x.pl.pieces = y.pl.pieces
  · try simp only [go_sem, ruB, decide_eq_true h1, hb12.at_, hx'.len]
    by_cases h2 : x.pl.pieces.length = 0
    · have e2 : (((x.pl.pieces.length : Nat) : Int) == 0) = true := by rw [beq_iff_eq]; omega
      try simp only [go_sem, ruB, e2, hb12.at_, hb2.at_]
      refine ⟨?_, hx1.trans hx2⟩
      unfold movP
      rw [decide_eq_false (by simpa using h1), decide_eq_true h2]
      congr 1
      by_cases h3 : x.pl.core = y.pl.core <;> simp [h3]
    · have e2 : (((x.pl.pieces.length : Nat) : Int) == 0) = false := by rw [beq_eq_false_iff_ne]; omega
      try simp only [go_sem, ruB, e2]
      refine ⟨?_, hx1.trans hx2⟩
      unfold movP
      rw [decide_eq_false (by simpa using h1), decide_eq_false h2]; rfl
  · try simp only [go_sem, ruB, decide_eq_false h1]
    refine ⟨?_, hx1.trans hx2⟩
    unfold movP
    rw [decide_eq_true (by simpa using h1)]; rfl

noncomputable def MovP (x y : PE) (a b : Bool) : Bool := a && (b && movP x y)
theorem Moved1_spec {x y : PE} {a b : Bool} (hx : PcV m x.pl.pieces x.pv) (hy : PcV m y.pl.pieces y.pv) (lx : x.pl.pieces.length < 1000000) (ly : y.pl.pieces.length < 1000000) :
    WC R F.diff_Moved_1 [eP x, eP y, .bool a, .bool b] m fun r m' => r = .bool (MovP x y a b) ∧ Ext m m' := by
  refine WC.of R.diff_Moved_1 rfl ?_
  have o1 := x.one
  have o2 := y.one
  simp only [RC.diff_Moved_1, eP, peV, plV, go_sem, o1, o2]
  have hx1 : Ext m (m.new (.cells [.int .i64 x.pl.unit, .int .i64 x.pl.share, .int .i64 x.pl.core, x.pv] (some 4))) := Ext.new
  have hb1 : Bk (m.new (.cells [.int .i64 x.pl.unit, .int .i64 x.pl.share, .int .i64 x.pl.core, x.pv] (some 4))) m.next [.int .i64 x.pl.unit, .int .i64 x.pl.share, .int .i64 x.pl.core, x.pv] 4 := Bk.new
  generalize m.new (.cells [.int .i64 x.pl.unit, .int .i64 x.pl.share, .int .i64 x.pl.core, x.pv] (some 4)) = m1 at hx1 hb1 ⊢
  have hx2 : Ext m1 (m1.new (.cells [.int .i64 y.pl.unit, .int .i64 y.pl.share, .int .i64 y.pl.core, y.pv] (some 4))) := Ext.new
  have hb2 : Bk (m1.new (.cells [.int .i64 y.pl.unit, .int .i64 y.pl.share, .int .i64 y.pl.core, y.pv] (some 4))) m1.next [.int .i64 y.pl.unit, .int .i64 y.pl.share, .int .i64 y.pl.core, y.pv] 4 := Bk.new
  generalize m1.new (.cells [.int .i64 y.pl.unit, .int .i64 y.pl.share, .int .i64 y.pl.core, y.pv] (some 4)) = m2 at hx2 hb2 ⊢
  have hb12 := hb1.keep hx2
  have hx' := (hx.keep hx1).keep hx2
  have hy' := (hy.keep hx1).keep hx2
  unfold MovP
  cases a <;> cases b
  · try simp only [go_sem, ruB]
    exact hx1.trans hx2
  · try simp only [go_sem, ruB]
    exact hx1.trans hx2
  · try simp only [go_sem, ruB]
    exact hx1.trans hx2
  · try simp only [go_sem, ruB, hb12.at_, hb2.at_]
    refine gC.of (moved_spec hx' hy' lx ly) ?_
    rintro _ m3 ⟨rfl, hx3⟩
    try simp only [go_sem, ruB]
    exact (hx1.trans hx2).trans hx3

theorem e0_pcs {m : Mem} : PcV m e0.pl.pieces e0.pv := ⟨.nil rfl rfl, trivial⟩
theorem Moved_spec {l k : List PE} {f g : Int} {c d : BitVec 32} {pv kv : Value} (hs : RowS m l pv) (hk : RowS m k kv) (ol : OkE l) (ok : OkE k)
    (pl : ∀ e ∈ l, PcV m e.pl.pieces e.pv ∧ e.pl.pieces.length < 1000000) (pk : ∀ e ∈ k, PcV m e.pl.pieces e.pv ∧ e.pl.pieces.length < 1000000) :
    WC R F.diff_Moved [.agg #[.int .i64 f, u32 c, pv], .agg #[.int .i64 g, u32 d, kv]] m fun r m' => Own m m' 1 (someL l k MovP).length (intsZ (someL l k MovP)) r ∧ Ext m m' := by
  refine WC.of R.diff_Moved rfl ?_
  simp only [RC.diff_Moved, go_sem, hs.sl.one, hk.sl.one]
  have hx1 : Ext m (m.new (.cells [.int .i64 f, u32 c, pv] (some 3))) := Ext.new
  have hb1 : Bk (m.new (.cells [.int .i64 f, u32 c, pv] (some 3))) m.next [.int .i64 f, u32 c, pv] 3 := Bk.new
  generalize m.new (.cells [.int .i64 f, u32 c, pv] (some 3)) = m1 at hx1 hb1 ⊢
  have hx2 : Ext m1 (m1.new (.cells [.int .i64 g, u32 d, kv] (some 3))) := Ext.new
  have hb2 : Bk (m1.new (.cells [.int .i64 g, u32 d, kv] (some 3))) m1.next [.int .i64 g, u32 d, kv] 3 := Bk.new
  generalize m1.new (.cells [.int .i64 g, u32 d, kv] (some 3)) = m2 at hx2 hb2 ⊢
  have hb12 := hb1.keep hx2
  have hX := hx1.trans hx2
  try simp only [go_sem, ruB, hb12.at_, hb2.at_]
  have hpe : ∀ {L : List PE} {x : PE} {M : Mem}, (∀ e ∈ L, PcV m e.pl.pieces e.pv ∧ e.pl.pieces.length < 1000000) → Ext m M → (x ∈ L ∨ x = e0) → PcV M x.pl.pieces x.pv ∧ x.pl.pieces.length < 1000000 := by
    intro L x M h hM hx
    rcases hx with hx | rfl
    · exact ⟨(h x hx).1.keep hM, (h x hx).2⟩
    · exact ⟨e0_pcs, by show (0 : Nat) < 1000000; omega⟩
  refine gC.of (some_spec (P := MovP) (hs.keep hX) (hk.keep hX) ol ok ⟨_, rfl⟩ ?_) ?_
  · intro m3 x y a b hx3 h1 h2
    rw [gV_func]
    exact Moved1_spec (hpe pl (hX.trans hx3) h1).1 (hpe pk (hX.trans hx3) h2).1 (hpe pl (hX.trans hx3) h1).2 (hpe pk (hX.trans hx3) h2).2
  · rintro r m4 ⟨ho, hx4⟩
    try simp only [go_sem, ruB]
    exact ⟨ho.weak hX, hX.trans hx4⟩
end Go.Am


/- DiffT1 over the table of stagez (relayset.py). -/
set_option linter.unusedVariables false
set_option linter.unusedSimpArgs false
namespace Go.Am
open Classical
variable {m : Mem}

end Go.Am


/- DiffT2 over the table of stagez (relayset.py). -/
set_option linter.unusedVariables false
set_option linter.unusedSimpArgs false
namespace Go.Am
open Classical
variable {m : Mem}

def onP (x : Pl) (c : Int) : Bool := if x.pieces.length = 0 then x.core == c else x.pieces.any fun q => q.1 == c

theorem On_spec {x : Pl} {v : Value} {c : Int} (hv : PlV m x v) (hl : x.pieces.length < 1000000) : WC R F.ref22_On [v, .int .i64 c] m fun r m' => r = .bool (onP x c) ∧ Ext m m' := by
  refine WC.of R.ref22_On rfl ?_
  obtain ⟨pv, rfl, hp⟩ := hv
  simp only [RC.ref22_On, plV, go_sem, hp.one]
  have hx : Ext m (m.new (.cells [.int .i64 x.unit, .int .i64 x.share, .int .i64 x.core, pv] (some 4))) := Ext.new
  have hb : Bk (m.new (.cells [.int .i64 x.unit, .int .i64 x.share, .int .i64 x.core, pv] (some 4))) m.next [.int .i64 x.unit, .int .i64 x.share, .int .i64 x.core, pv] 4 := Bk.new
  generalize m.new (.cells [.int .i64 x.unit, .int .i64 x.share, .int .i64 x.core, pv] (some 4)) = m1 at hx hb ⊢
  have hp1 := hp.keep hx
  by_cases h0 : x.pieces.length = 0
  · have e0 : (((x.pieces.length : Nat) : Int) == 0) = true := by rw [beq_iff_eq]; omega
    have e : onP x c = (x.core == c) := by unfold onP; rw [if_pos h0]
    try simp only [go_sem, ruB, hb.at_, hp1.len, e0, e]
    first | exact hx | exact ⟨rfl, hx⟩
  · have e0 : (((x.pieces.length : Nat) : Int) == 0) = false := by rw [beq_eq_false_iff_ne]; omega
    have e : onP x c = x.pieces.any fun q => q.1 == c := by unfold onP; rw [if_neg h0]
    try simp only [go_sem, ruB, hb.at_, hp1.len, e0]
    refine WL.of (fun n e m' => ∃ i : Nat, i ≤ x.pieces.length ∧ n = x.pieces.length - i ∧ m' = m1 ∧ e = [(1, .int .i64 c), (2, pt m.next), (5, .int .i64 i)] ∧ ∀ t (h : t < x.pieces.length), t < i → x.pieces[t].1 ≠ c) x.pieces.length
      ⟨0, by omega, by omega, rfl, by simp only [go_sem] <;> rfl, fun t h h2 => by omega⟩ ?_
    rintro _ _ _ ⟨i, hi, rfl, hm, rfl, hno⟩
    replace hm := hm.symm
    subst hm
    simp only [RB.ref22_On_1, pt, go_sem, ruB, hb.at_, hp1.len]
    have s1 := step1 (show i < 1000000 by omega)
    by_cases g1 : i < x.pieces.length
    · have e1 : decide ((i : Int) < (x.pieces.length : Int)) = true := decide_eq_true (by omega)
      obtain ⟨b, o, a1, a2, a3, a4⟩ := hp1.elem g1
      have a30 := a3 0 (by omega)
      simp only [pcV, Nat.add_zero, List.getElem?_cons_zero] at a30
      try simp only [go_sem, ruB, e1, a1, a30, hb.at_]
      by_cases g2 : x.pieces[i].1 = c
      · have e2 : (x.pieces[i].1 == c) = true := by rw [beq_iff_eq]; exact g2
        have e3 : onP x c = true := by rw [e, List.any_eq_true]; exact ⟨_, List.getElem_mem g1, e2⟩
        try simp only [go_sem, ruB, e2, e3]
        first | exact hx | exact ⟨rfl, hx⟩
      · have e2 : (x.pieces[i].1 == c) = false := by rw [beq_eq_false_iff_ne]; exact g2
        try simp only [go_sem, ruB, e2, s1]
        refine ⟨x.pieces.length - (i + 1), by omega, i + 1, by omega, rfl, rfl, fun t h ht => ?_⟩
        by_cases et : t = i
        · subst et; exact g2
        · exact hno t h (by omega)
    · have e1 : decide ((i : Int) < (x.pieces.length : Int)) = false := decide_eq_false (by omega)
      have e3 : onP x c = false := by
        rw [e, List.any_eq_false]
        intro q hq
        obtain ⟨t, ht, rfl⟩ := List.getElem_of_mem hq
        have := hno t ht (by omega)
        simpa using this
      try simp only [go_sem, ruB, e1, e3]
      first | exact hx | exact ⟨rfl, hx⟩

def refMov (x y : Pl) : Prop := ∃ c : Nat, c < 16 ∧ (onP x c ≠ onP y c ∨ ∃ t : Nat, t < 64 ∧ x.pieces.countP (atB c t) ≠ y.pieces.countP (atB c t))

/-- The ticks of one core. -/
theorem refMov_loop {x y : Pl} {pv qv : Value} {bx b_y : Nat} {c : Nat} (hc : c < 16) (hx : Bk m bx (plV x pv) 4) (hy : Bk m b_y (plV y qv) 4) (px : PcV m x.pieces pv) (py : PcV m y.pieces qv) (lx : x.pieces.length < 1000000) (ly : y.pieces.length < 1000000) :
    WL R [2, 3, 5, 6] RB.ref22_Moved_1 [(2, pt bx), (3, pt b_y), (5, .int .i64 c), (6, .int .i64 0)] m fun z e m' => Ext m m' ∧
      ((z = .exit 2 ∧ (∀ t : Nat, t < 64 → x.pieces.countP (atB c t) = y.pieces.countP (atB c t)) ∧ ∃ rs, e = (2, pt bx) :: (3, pt b_y) :: (5, .int .i64 c) :: rs) ∨
       (z = .ret ∧ e = [(4, .bool true)] ∧ ∃ t : Nat, t < 64 ∧ x.pieces.countP (atB c t) ≠ y.pieces.countP (atB c t))) := by
  refine WL.of (fun n e m' => ∃ i : Nat, i ≤ 64 ∧ n = 64 - i ∧ Ext m m' ∧ e = [(2, pt bx), (3, pt b_y), (5, .int .i64 c), (6, .int .i64 i)] ∧ ∀ t : Nat, t < i → x.pieces.countP (atB c t) = y.pieces.countP (atB c t)) 64
    ⟨0, by omega, by omega, Ext.refl _, by simp only [go_sem] <;> rfl, fun t h => by omega⟩ ?_
  rintro _ _ m1 ⟨i, hi, rfl, hx1, rfl, hall⟩
  have hxx := hx.keep hx1
  have hyy := hy.keep hx1
  have hxq := hxx
  have hyq := hyy
  simp only [plV] at hxq hyq
  simp only [RB.ref22_Moved_1, pt, go_sem, ruB, hxq.at_, px.one, py.one]
  have s1 := step1 (show i < 1000000 by omega)
  by_cases g1 : i < 64
  · have e1 : decide ((i : Int) < 64) = true := decide_eq_true (by omega)
    try simp only [go_sem, ruB, e1, hxq.at_, hyq.at_]
    refine gC.of (At_spec (x := x) (c := (c : Int)) (t := (i : Int)) ⟨pv, rfl, px.keep hx1⟩ lx) ?_
    rintro _ m2 ⟨rfl, hx2⟩
    have hyq2 := hyq.keep hx2
    have hk2 : m2.blk b_y = m1.blk b_y := hx2.same b_y hyq.lt
    try simp only [go_sem, ruB, watchOk_cons, watchOk_nil, blkOf_ptr, hk2, hyq2.at_, hyq.at_]
    refine gC.of (At_spec (x := y) (c := (c : Int)) (t := (i : Int)) ⟨qv, rfl, (py.keep hx1).keep hx2⟩ ly) ?_
    rintro _ m3 ⟨rfl, hx3⟩
    have hx13 := (hx1.trans hx2).trans hx3
    by_cases g2 : x.pieces.countP (atB c i) = y.pieces.countP (atB c i)
    · have e2 : (((x.pieces.countP (atB c i) : Nat) : Int) != ((y.pieces.countP (atB c i) : Nat) : Int)) = false := by rw [bne_eq_false_iff_eq, g2]
      try simp only [go_sem, ruB, e2, s1]
      refine ⟨64 - (i + 1), by omega, i + 1, by omega, rfl, hx13, rfl, fun t ht => ?_⟩
      by_cases et : t = i
      · subst et; exact g2
      · exact hall t (by omega)
    · have e2 : (((x.pieces.countP (atB c i) : Nat) : Int) != ((y.pieces.countP (atB c i) : Nat) : Int)) = true := by rw [bne_iff_ne]; exact fun e => g2 (by omega)
      try simp only [go_sem, ruB, e2]
      exact ⟨hx13, .inr ⟨i, by omega, g2⟩⟩
  · have e1 : decide ((i : Int) < 64) = false := decide_eq_false (by omega)
    have hi64 : i = 64 := by omega
    subst hi64
    try simp only [go_sem, ruB, e1]
    exact ⟨hx1, .inl ⟨hall, _, rfl⟩⟩

theorem refMoved_spec {x y : Pl} {v w : Value} (hv : PlV m x v) (hw : PlV m y w) (lx : x.pieces.length < 1000000) (ly : y.pieces.length < 1000000) :
    WC R F.ref22_Moved [v, w] m fun r m' => r = .bool (decide (refMov x y)) ∧ Ext m m' := by
  refine WC.of R.ref22_Moved rfl ?_
  obtain ⟨pv, rfl, px⟩ := hv
  obtain ⟨qv, rfl, py⟩ := hw
  simp only [RC.ref22_Moved, plV, go_sem, px.one, py.one]
  have hx1 : Ext m (m.new (.cells [.int .i64 x.unit, .int .i64 x.share, .int .i64 x.core, pv] (some 4))) := Ext.new
  have hb1 : Bk (m.new (.cells [.int .i64 x.unit, .int .i64 x.share, .int .i64 x.core, pv] (some 4))) m.next [.int .i64 x.unit, .int .i64 x.share, .int .i64 x.core, pv] 4 := Bk.new
  generalize m.new (.cells [.int .i64 x.unit, .int .i64 x.share, .int .i64 x.core, pv] (some 4)) = m1 at hx1 hb1 ⊢
  have hx2 : Ext m1 (m1.new (.cells [.int .i64 y.unit, .int .i64 y.share, .int .i64 y.core, qv] (some 4))) := Ext.new
  have hb2 : Bk (m1.new (.cells [.int .i64 y.unit, .int .i64 y.share, .int .i64 y.core, qv] (some 4))) m1.next [.int .i64 y.unit, .int .i64 y.share, .int .i64 y.core, qv] 4 := Bk.new
  generalize m1.new (.cells [.int .i64 y.unit, .int .i64 y.share, .int .i64 y.core, qv] (some 4)) = m2 at hx2 hb2 ⊢
  have hb12 := hb1.keep hx2
  have hX := hx1.trans hx2
  have px2 := px.keep hX
  have py2 := py.keep hX
  refine WL.of (fun n e m' => ∃ c : Nat, c ≤ 16 ∧ n = 16 - c ∧ Ext m2 m' ∧ e = [(2, pt m.next), (3, pt m1.next), (5, .int .i64 c)] ∧ ∀ k : Nat, k < c → ¬ (onP x k ≠ onP y k ∨ ∃ t : Nat, t < 64 ∧ x.pieces.countP (atB k t) ≠ y.pieces.countP (atB k t))) 16
    ⟨0, by omega, by omega, Ext.refl _, by simp only [go_sem] <;> rfl, fun t h => by omega⟩ ?_
  rintro _ _ m3 ⟨c, hc, rfl, hx3, rfl, hall⟩
  have hbx := hb12.keep hx3
  have hby := hb2.keep hx3
  simp only [RB.ref22_Moved_2, pt, go_sem, ruB, hbx.at_, px.one, py.one]
  have s1 := step1 (show c < 1000000 by omega)
  by_cases g1 : c < 16
  · have e1 : decide ((c : Int) < 16) = true := decide_eq_true (by omega)
    try simp only [go_sem, ruB, e1, hbx.at_, hby.at_]
    refine gC.of (On_spec (x := x) (c := (c : Int)) ⟨pv, rfl, px2.keep hx3⟩ lx) ?_
    rintro _ m4 ⟨rfl, hx4⟩
    have hk4 : m4.blk m1.next = m3.blk m1.next := hx4.same m1.next hby.lt
    try simp only [go_sem, ruB, watchOk_cons, watchOk_nil, blkOf_ptr, hk4]
    refine gC.of (On_spec (x := y) (c := (c : Int)) ⟨qv, rfl, (py2.keep hx3).keep hx4⟩ ly) ?_
    rintro _ m5 ⟨rfl, hx5⟩
    have hx35 := (hx3.trans hx4).trans hx5
    by_cases g2 : onP x c = onP y c
    · have e2 : (!(onP x c == onP y c)) = false := by rw [g2]; simp
      have hbx5 := (hbx.keep hx4).keep hx5
      have hby5 := (hby.keep hx4).keep hx5
      try simp only [go_sem, ruB, e2]
      refine WL.mono (refMov_loop (x := x) (y := y) g1 hbx5 hby5 (px2.keep hx35) (py2.keep hx35) lx ly) ?_
      rintro _ _ m6 ⟨hx6, ⟨rfl, hall6, rs, rfl⟩ | ⟨rfl, rfl, t, ht, hne⟩⟩
      · try simp only [go_sem, ruB, s1]
        refine ⟨16 - (c + 1), by omega, c + 1, by omega, rfl, hx35.trans hx6, rfl, fun k hk => ?_⟩
        by_cases ek : k = c
        · subst ek
          rintro (h | ⟨t, ht, h⟩)
          · exact h g2
          · exact h (hall6 t ht)
        · exact hall k (by omega)
      · have e3 : decide (refMov x y) = true := decide_eq_true ⟨c, g1, .inr ⟨t, ht, hne⟩⟩
        try simp only [go_sem, ruB, e3]
        first | exact hX.trans (hx35.trans hx6) | exact ⟨rfl, hX.trans (hx35.trans hx6)⟩
    · have e2 : (!(onP x c == onP y c)) = true := by
        have : (onP x c == onP y c) = false := by rw [beq_eq_false_iff_ne]; exact g2
        rw [this]; rfl
      have e3 : decide (refMov x y) = true := decide_eq_true ⟨c, g1, .inl g2⟩
      try simp only [go_sem, ruB, e2, e3]
      first | exact hX.trans hx35 | exact ⟨rfl, hX.trans hx35⟩
  · have e1 : decide ((c : Int) < 16) = false := decide_eq_false (by omega)
    have e3 : decide (refMov x y) = false := decide_eq_false (fun ⟨k, hk, h⟩ => hall k (by omega) h)
    try simp only [go_sem, ruB, e1, e3]
    first | exact hX.trans hx3 | exact ⟨rfl, hX.trans hx3⟩
end Go.Am


/- DiffT3 over the table of stagez (relayset.py). -/
set_option linter.unusedVariables false
set_option linter.unusedSimpArgs false
namespace Go.Am
open Classical
variable {m : Mem}

/-- The units of two plans, up to a number. -/
noncomputable def unitsL (a b : List Pl) : Nat → List Int
  | 0 => []
  | n + 1 => unitsL a b n ++ (if hasU a (n + 1 : Nat) ∨ hasU b (n + 1 : Nat) then [((n + 1 : Nat) : Int)] else [])
theorem unitsL_len {a b : List Pl} : ∀ n, (unitsL a b n).length ≤ n
  | 0 => Nat.le_refl _
  | n + 1 => by
    have := unitsL_len (a := a) (b := b) n
    unfold unitsL
    split <;> simp <;> omega

set_option maxHeartbeats 4000000 in
theorem Units_spec {p q : PlanD} {v w : Value} (hv : PlanV m p v) (hw : PlanV m q w) (hl : PlanL p) (hk : PlanL q) (ha : Asc p.places) (hb : Asc q.places) :
    WC R F.ref22_Units [v, w] m fun r m' => Own m m' 1 (unitsL p.places q.places 1040).length (intsZ (unitsL p.places q.places 1040)) r ∧ Ext m m' := by
  refine WC.of R.ref22_Units rfl ?_
  obtain ⟨pv, rfl, hp⟩ := hv
  obtain ⟨qv, rfl, hq⟩ := hw
  simp only [RC.ref22_Units, planV, go_sem, hp.one, hq.one]
  have hx1 : Ext m (m.new (.cells [.int .i64 p.frame, u32 p.cores, pv] (some 3))) := Ext.new
  have hb1 : Bk (m.new (.cells [.int .i64 p.frame, u32 p.cores, pv] (some 3))) m.next [.int .i64 p.frame, u32 p.cores, pv] 3 := Bk.new
  generalize m.new (.cells [.int .i64 p.frame, u32 p.cores, pv] (some 3)) = m1 at hx1 hb1 ⊢
  have hx2 : Ext m1 (m1.new (.cells [.int .i64 q.frame, u32 q.cores, qv] (some 3))) := Ext.new
  have hb2 : Bk (m1.new (.cells [.int .i64 q.frame, u32 q.cores, qv] (some 3))) m1.next [.int .i64 q.frame, u32 q.cores, qv] 3 := Bk.new
  generalize m1.new (.cells [.int .i64 q.frame, u32 q.cores, qv] (some 3)) = m2 at hx2 hb2 ⊢
  have hb12 := hb1.keep hx2
  have hX := hx1.trans hx2
  have hp2 := hp.keep hX
  have hq2 := hq.keep hX
  have hx3 : Ext m2 (m2.new (.cells [] (some 1))) := Ext.new
  have ho3 : Own m2 (m2.new (.cells [] (some 1))) 1 0 [] (.slice (some ⟨m2.next, 0, none⟩) 0 0) := .at (all := []) (Nat.le_refl _) (by simp [Mem.new]) (Nat.le_refl _) (by simp [Mem.new]) rfl rfl rfl
  generalize m2.new (.cells [] (some 1)) = m3 at hx3 ho3 ⊢
  refine WL.of (fun n e m' => ∃ (i : Nat) (z : Value), i ≤ 1040 ∧ n = 1040 - i ∧ e = [(2, pt m.next), (3, pt m1.next), (5, z), (6, .int .i64 ((i + 1 : Nat) : Int))] ∧ Own m2 m' 1 (unitsL p.places q.places i).length (intsZ (unitsL p.places q.places i)) z ∧ Ext m2 m') 1040
    ⟨0, _, by omega, by omega, by simp only [go_sem] <;> rfl, ho3, hx3⟩ ?_
  rintro _ _ m4 ⟨i, z, hi, rfl, rfl, ho, hx4⟩
  have hbx := hb12.keep hx4
  have hby := hb2.keep hx4
  simp only [RB.ref22_Units_1, pt, go_sem, ruB, hbx.at_]
  have s1 := step1 (show i + 1 < 1000000 by omega)
  by_cases g1 : i < 1040
  · have e1 : decide (((i + 1 : Nat) : Int) ≤ 1040) = true := decide_eq_true (by omega)
    try simp only [go_sem, ruB, e1, hbx.at_]
    refine gC.of (refFind_spec (p := p) (u := ((i + 1 : Nat) : Int)) ⟨pv, rfl, hp2.keep hx4⟩ hl ha) ?_
    rintro _ m5 ⟨xw, rfl, ⟨xv, rfl, hxv⟩, hx5⟩
    have hby5 := hby.keep hx5
    simp only [plV]
    have hbn5 := hby5.ne
    try simp only [go_sem, ruB, aExt0, aExt1, hxv.one, hby5.at_, hbn5]
    generalize findP p.places ((i + 1 : Nat) : Int) = xx at *
    have hx6 : Ext m5 (m5.new (.cells [.int .i64 xx.unit, .int .i64 xx.share, .int .i64 xx.core, xv] (some 4))) := Ext.new
    have hc6 : Bk (m5.new (.cells [.int .i64 xx.unit, .int .i64 xx.share, .int .i64 xx.core, xv] (some 4))) m5.next [.int .i64 xx.unit, .int .i64 xx.share, .int .i64 xx.core, xv] 4 := Bk.new
    generalize m5.new (.cells [.int .i64 xx.unit, .int .i64 xx.share, .int .i64 xx.core, xv] (some 4)) = m6 at hx6 hc6 ⊢
    refine gC.of (refFind_spec (p := q) (u := ((i + 1 : Nat) : Int)) ⟨qv, rfl, ((hq2.keep hx4).keep hx5).keep hx6⟩ hk hb) ?_
    rintro _ m7 ⟨yw, rfl, ⟨yv, rfl, hyv⟩, hx7⟩
    simp only [plV]
    try simp only [go_sem, ruB, aExt0, aExt1, hyv.one]
    generalize findP q.places ((i + 1 : Nat) : Int) = yy at *
    have hx8 : Ext m7 (m7.new (.cells [.int .i64 yy.unit, .int .i64 yy.share, .int .i64 yy.core, yv] (some 4))) := Ext.new
    have hc8 : Bk (m7.new (.cells [.int .i64 yy.unit, .int .i64 yy.share, .int .i64 yy.core, yv] (some 4))) m7.next [.int .i64 yy.unit, .int .i64 yy.share, .int .i64 yy.core, yv] 4 := Bk.new
    generalize m7.new (.cells [.int .i64 yy.unit, .int .i64 yy.share, .int .i64 yy.core, yv] (some 4)) = m8 at hx8 hc8 ⊢
    have hx58 := ((hx5.trans hx6).trans hx7).trans hx8
    have ho8 := ho.keep hx58
    have hx28 := hx4.trans hx58
    have hul := unitsL_len (a := p.places) (b := q.places) i
    by_cases g2 : hasU p.places ((i + 1 : Nat) : Int) ∨ hasU q.places ((i + 1 : Nat) : Int)
    · have hstep : unitsL p.places q.places (i + 1) = unitsL p.places q.places i ++ [((i + 1 : Nat) : Int)] := by
        show unitsL p.places q.places i ++ _ = _
        rw [if_pos g2]
      obtain ⟨v', m9, p1, p2, p3⟩ := ho8.app (by_ := 8) (es := [.int .i64 ((i + 1 : Nat) : Int)]) hx28 (by omega) rfl rfl (by omega) (by omega)
      have fin : ∃ n', n' < 1040 - i ∧ ∃ (j : Nat) (z : Value), j ≤ 1040 ∧ n' = 1040 - j ∧ ([(2, pt m.next), (3, pt m1.next), (5, v'), (6, .int .i64 ((i + 1 + 1 : Nat) : Int))] : Env) = [(2, pt m.next), (3, pt m1.next), (5, z), (6, .int .i64 ((j + 1 : Nat) : Int))] ∧ Own m2 m9 1 (unitsL p.places q.places j).length (intsZ (unitsL p.places q.places j)) z ∧ Ext m2 m9 := by
        refine ⟨1040 - (i + 1), by omega, i + 1, v', by omega, rfl, rfl, ?_, p3⟩
        rw [hstep, List.length_append]
        unfold intsZ at p2 ⊢
        rw [List.map_append]; exact p2
      by_cases g3 : hasU p.places ((i + 1 : Nat) : Int)
      · try simp only [go_sem, ruB, decide_eq_true g3, p1, s1]
        exact fin
      · have g4 : hasU q.places ((i + 1 : Nat) : Int) := g2.resolve_left g3
        try simp only [go_sem, ruB, decide_eq_false g3, decide_eq_true g4, p1, s1]
        exact fin
    · have hstep : unitsL p.places q.places (i + 1) = unitsL p.places q.places i := by
        show unitsL p.places q.places i ++ _ = _
        rw [if_neg g2, List.append_nil]
      have g3 : ¬ hasU p.places ((i + 1 : Nat) : Int) := fun h => g2 (.inl h)
      have g4 : ¬ hasU q.places ((i + 1 : Nat) : Int) := fun h => g2 (.inr h)
      try simp only [go_sem, ruB, decide_eq_false g3, decide_eq_false g4, s1]
      exact ⟨1040 - (i + 1), by omega, i + 1, z, by omega, rfl, rfl, by rw [hstep]; exact ho8, hx28⟩
  · have e1 : decide (((i + 1 : Nat) : Int) ≤ 1040) = false := decide_eq_false (by omega)
    have hi2 : i = 1040 := by omega
    subst hi2
    try simp only [go_sem, ruB, e1]
    exact ⟨ho.weak hX, hX.trans hx4⟩
end Go.Am


/- DiffT4 over the table of stagez (relayset.py). -/
set_option linter.unusedVariables false
set_option linter.unusedSimpArgs false
namespace Go.Am
open Classical
variable {m : Mem}

set_option maxHeartbeats 4000000 in
theorem refFindO_spec {M0 : Mem} {p : PlanD} {v : Value} {u : Int} (hv : PlanV M0 p v) (hM : Ext M0 m) (hl : PlanL p) (ha : Asc p.places) :
    WC R F.ref16_Find [v, .int .i64 u] m fun r m' => ∃ qv, r = .tuple #[.agg (plV (findP p.places u) qv).toArray, .bool (decide (hasU p.places u))] ∧ PcV M0 (findP p.places u).pieces qv ∧ Ext m m' := by
  refine WC.of R.ref16_Find rfl ?_
  obtain ⟨pv, rfl, hp⟩ := hv
  have hlen := hl.len
  simp only [RC.ref16_Find, planV, go_sem, hp.one]
  have hx : Ext m (m.new (.cells [.int .i64 p.frame, u32 p.cores, pv] (some 3))) := Ext.new
  have hb : Bk (m.new (.cells [.int .i64 p.frame, u32 p.cores, pv] (some 3))) m.next [.int .i64 p.frame, u32 p.cores, pv] 3 := Bk.new
  generalize m.new (.cells [.int .i64 p.frame, u32 p.cores, pv] (some 3)) = m1 at hx hb ⊢
  have hbn := hb.ne
  try simp only [go_sem, hbn]
  have hx2 : Ext m1 (m1.new (.cells [.int .i64 0, .int .i64 0, .int .i64 0, .slice none 0 0] (some 4))) := Ext.new
  have hb2 : Bk (m1.new (.cells [.int .i64 0, .int .i64 0, .int .i64 0, .slice none 0 0] (some 4))) m1.next [.int .i64 0, .int .i64 0, .int .i64 0, .slice none 0 0] 4 := Bk.new
  generalize m1.new (.cells [.int .i64 0, .int .i64 0, .int .i64 0, .slice none 0 0] (some 4)) = m2 at hx2 hb2 ⊢
  have hp2 := ((hp.keep hM).keep hx).keep hx2
  have hb' := hb.keep hx2
  refine WL.of (fun n e m' => ∃ i : Nat, i ≤ p.places.length ∧ n = p.places.length - i ∧ e = [(1, .int .i64 u), (2, pt m.next), (4, pt m1.next), (6, .int .i64 i)] ∧ (∀ t (h : t < p.places.length), t < i → p.places[t].unit ≠ u) ∧ m' = m2) p.places.length
    ⟨0, by omega, by omega, by simp only [go_sem] <;> rfl, fun t h h2 => by omega, rfl⟩ ?_
  rintro _ _ _ ⟨i, hi, rfl, rfl, hno, hm⟩
  replace hm := hm.symm
  subst hm
  simp only [RB.ref16_Find_1, pt, go_sem, ruB, hb'.at_, hp2.len]
  refine gT.of (fun h1' => ?_) (fun h1' => ?_) <;> (have h1 := h1'; try simp only [decide_eq_true_eq, decide_eq_false_iff_not, beq_iff_eq, bne_iff_ne, beq_eq_false_iff_ne, ne_eq, Bool.not_eq_true', Bool.not_eq_false', bne_eq_false_iff_eq, Int.not_lt, Int.not_le] at h1)
  · have hil : i < p.places.length := by omega
    obtain ⟨b, o, qv, a1, a2, a3, a4, a5⟩ := hp.elem hil
    have a30 := a3 0 (by omega)
    rw [← load_ext ((hM.trans hx).trans hx2) a5] at a2 a30
    have hfx : p.places[i].unit = u → findP p.places u = p.places[i] := fun h => findP_at ha hil h
    have hhas : p.places[i].unit = u → hasU p.places u := fun h => ⟨i, hil, h⟩
    have hno2 : p.places[i].unit ≠ u → ∀ t (h : t < p.places.length), t < i + 1 → p.places[t].unit ≠ u := by
      intro g t h ht
      by_cases e : t = i
      · subst e; exact g
      · exact hno t h (by omega)
    generalize p.places[i] = x at *
    simp only [plV, Nat.add_zero, List.getElem?_cons_zero] at a2 a30
    have q1 := a4.one
    try simp only [go_sem, ruB, h1', a1, a30, hb'.at_]
    refine gT.of (fun h2' => ?_) (fun h2' => ?_) <;> (have h2 := h2'; try simp only [decide_eq_true_eq, decide_eq_false_iff_not, beq_iff_eq, bne_iff_ne, beq_eq_false_iff_ne, ne_eq, Bool.not_eq_true', Bool.not_eq_false', bne_eq_false_iff_eq, Int.not_lt, Int.not_le] at h2)
    · have hfx := hfx h2
      try simp only [go_sem, ruB, h2', a1, a2, hb'.at_, hb2.at_, q1]
      refine ⟨qv, by rw [decide_eq_true (hhas h2), hfx]; rfl, ?_, hx.trans (hx2.set (Nat.le_refl _))⟩
      rw [hfx]
      exact a4
    · try simp only [go_sem, ruB, h2', step1 (show i < 1000000 by omega)]
      exact ⟨p.places.length - (i + 1), by omega, i + 1, by omega, rfl, rfl, hno2 h2⟩
  · have hnu : ¬ hasU p.places u := by
      rintro ⟨t, h, e⟩
      exact hno t h (by omega) e
    try simp only [go_sem, ruB, h1', hb2.at_]
    refine ⟨.slice none 0 0, by rw [decide_eq_false hnu, findP_not hnu]; rfl, ?_, hx.trans (hx2.set (Nat.le_refl _))⟩
    rw [findP_not hnu]
    exact ⟨.nil rfl rfl, trivial⟩

theorem findP_pcs {p : PlanD} (hl : PlanL p) {u : Int} : (findP p.places u).pieces.length < 1000000 := by
  unfold findP
  split
  · exact hl.pcs _ (List.getElem_mem _)
  · show (0 : Nat) < 1000000; omega

noncomputable def isU0 (a b : List Pl) (u : Int) : Bool := decide (hasU a u) && (decide (hasU b u) && decide (refMov (findP a u) (findP b u)))
noncomputable def listL (P : Int → Bool) (a b : List Pl) : List Int := (unitsL a b 1040).filter P

set_option maxHeartbeats 8000000 in
theorem List0_spec {p q : PlanD} {v w : Value} (hv : PlanV m p v) (hw : PlanV m q w) (hl : PlanL p) (hk : PlanL q) (ha : Asc p.places) (hb : Asc q.places) :
    WC R F.ref22_List [.int .i64 0, v, w] m fun r m' => Own m m' 1 (listL (isU0 p.places q.places) p.places q.places).length (intsZ (listL (isU0 p.places q.places) p.places q.places)) r ∧ Ext m m' := by
  refine WC.of R.ref22_List rfl ?_
  obtain ⟨pv, rfl, hp⟩ := hv
  obtain ⟨qv, rfl, hq⟩ := hw
  simp only [RC.ref22_List, planV, go_sem, hp.one, hq.one]
  have hx1 : Ext m (m.new (.cells [.int .i64 p.frame, u32 p.cores, pv] (some 3))) := Ext.new
  have hb1 : Bk (m.new (.cells [.int .i64 p.frame, u32 p.cores, pv] (some 3))) m.next [.int .i64 p.frame, u32 p.cores, pv] 3 := Bk.new
  generalize m.new (.cells [.int .i64 p.frame, u32 p.cores, pv] (some 3)) = m1 at hx1 hb1 ⊢
  have hx2 : Ext m1 (m1.new (.cells [.int .i64 q.frame, u32 q.cores, qv] (some 3))) := Ext.new
  have hb2 : Bk (m1.new (.cells [.int .i64 q.frame, u32 q.cores, qv] (some 3))) m1.next [.int .i64 q.frame, u32 q.cores, qv] 3 := Bk.new
  generalize m1.new (.cells [.int .i64 q.frame, u32 q.cores, qv] (some 3)) = m2 at hx2 hb2 ⊢
  have hb12 := hb1.keep hx2
  have hX := hx1.trans hx2
  have hp2 := hp.keep hX
  have hq2 := hq.keep hX
  have hbn1 := hb12.ne
  have hbn2 := hb2.ne
  have hx3 : Ext m2 (m2.new (.cells [] (some 1))) := Ext.new
  have ho3 : Own m2 (m2.new (.cells [] (some 1))) 1 0 [] (.slice (some ⟨m2.next, 0, none⟩) 0 0) := .at (all := []) (Nat.le_refl _) (by simp [Mem.new]) (Nat.le_refl _) (by simp [Mem.new]) rfl rfl rfl
  try simp only [go_sem, ruB, hb12.at_, hb2.at_, hbn1, hbn2]
  have hm3 : m2.next < (m2.new (.cells [] (some 1))).next := by simp [Mem.new]
  generalize m2.new (.cells [] (some 1)) = m3 at hx3 ho3 hm3 ⊢
  refine gC.of (Units_spec (p := p) (q := q) ⟨pv, rfl, hp2.keep hx3⟩ ⟨qv, rfl, hq2.keep hx3⟩ hl hk ha hb) ?_
  rintro uw m4 ⟨hou, hx4⟩
  have hul := unitsL_len (a := p.places) (b := q.places) 1040
  have hx24 := hx3.trans hx4
  have ho4 := ho3.keep hx4
  unfold listL
  generalize unitsL p.places q.places 1040 = U at *
  have hsU := hou.sl
  have hltU := hou.lt
  try simp only [go_sem, ruB]
  refine WL.of (fun n e m' => ∃ (i : Nat) (z : Value), i ≤ U.length ∧ n = U.length - i ∧ e = [(0, .int .i64 0), (4, pt m.next), (5, pt m1.next), (7, z), (8, uw), (9, .int .i64 i)] ∧ OwnQ m2 m4 m' m2.next 1 ((U.take i).filter (isU0 p.places q.places)).length (intsZ ((U.take i).filter (isU0 p.places q.places))) z) U.length
    ⟨0, _, by omega, by omega, by simp only [go_sem] <;> rfl, ⟨ho4, Upd.refl _ _, fun b hb => by simp [vb] at hb; exact .inl hb, hx24⟩⟩ ?_
  rintro _ _ m5 ⟨i, z, hi, rfl, rfl, ho⟩
  have hx25 := ho.ext
  have hbx := (hb12).keep hx25
  have hby := hb2.keep hx25
  have hgeU := hou.ge
  have hn23 : m2.next < m3.next := hm3
  have hoffU : SlOff [m2.next] uw := SlOff.vb_iff.2 (fun b hb hm => by simp at hm; have := hgeU b hb; omega)
  have hs5 := hsU.upd hltU hoffU ho.upd
  have hlt5 := hltU.upd ho.upd
  simp only [RB.ref22_List_1, pt, go_sem, ruB, hs5.len]
  have s1 := step1 (show i < 1000000 by omega)
  by_cases g1 : i < U.length
  · have e1 : decide ((i : Int) < (U.length : Int)) = true := decide_eq_true (by omega)
    obtain ⟨bb, oo, a1, a2⟩ := hs5.geti g1
    try simp only [go_sem, ruB, e1, hbx.at_, a1, a2]
    have hbu : Ext m5 (m5.bump 12) := Ext.bump
    refine gC.of (refFindO_spec (p := p) (u := U[i]) ⟨pv, rfl, hp2⟩ (hx25.trans hbu) hl ha) ?_
    rintro _ m6 ⟨xv, rfl, hxv, hx6⟩
    have hn6 : m5.next + 12 ≤ m6.next := hx6.next
    have hx56 := hbu.trans hx6
    have hone := hxv.one
    have hlx : (findP p.places U[i]).pieces.length < 1000000 := findP_pcs hl
    have hly : (findP q.places U[i]).pieces.length < 1000000 := findP_pcs hk
    have hset : ∀ (M : Mem) (k : Nat) (a b : Option AObj), (M.set k a).set k b = M.set k b := fun M k a b => by
      unfold Mem.set; congr 1; funext q; simp only []; split <;> rfl
    simp only [plV]
    try simp only [go_sem, ruB, aExt0, aExt1, hone, hset]
    have hU7 : Upd m6 (m6.set (m5.next + 9) (some (.cells [.int .i64 (findP p.places U[i]).unit, .int .i64 (findP p.places U[i]).share, .int .i64 (findP p.places U[i]).core, xv] (some 4)))) [m5.next + 9] := Upd.set (by simp)
    have hc7 : Bk (m6.set (m5.next + 9) (some (.cells [.int .i64 (findP p.places U[i]).unit, .int .i64 (findP p.places U[i]).share, .int .i64 (findP p.places U[i]).core, xv] (some 4)))) (m5.next + 9) [.int .i64 (findP p.places U[i]).unit, .int .i64 (findP p.places U[i]).share, .int .i64 (findP p.places U[i]).core, xv] 4 := ⟨by simp [Mem.set], by simp [Mem.set]; omega⟩
    have hm7n : (m6.set (m5.next + 9) (some (.cells [.int .i64 (findP p.places U[i]).unit, .int .i64 (findP p.places U[i]).share, .int .i64 (findP p.places U[i]).core, xv] (some 4)))).next = m6.next := rfl
    generalize m6.set (m5.next + 9) (some (.cells [.int .i64 (findP p.places U[i]).unit, .int .i64 (findP p.places U[i]).share, .int .i64 (findP p.places U[i]).core, xv] (some 4))) = m7 at hU7 hc7 hm7n ⊢
    have hx57 : Ext m5 m7 := hU7.ext_of hx56 (by simp)
    have hby7 := hby.keep hx57
    have hs7 := hs5.keep hlt5 hx57
    obtain ⟨b2, o2, c1, c2⟩ := hs7.geti g1
    rw [a1] at c1
    cases c1
    have hbu7 : Ext m7 (m7.bump 12) := Ext.bump
    try simp only [go_sem, ruB, a1, c2, hby7.at_]
    refine gC.of (refFindO_spec (p := q) (u := U[i]) ⟨qv, rfl, hq2⟩ ((hx25.trans hx57).trans hbu7) hk hb) ?_
    rintro _ m8 ⟨yv, rfl, hyv, hx8⟩
    have hn78 : m7.next + 12 ≤ m8.next := hx8.next
    have hn67 := hU7.next
    have hx78 := hbu7.trans hx8
    have hone2 := hyv.one
    have hc8 := hc7.keep hx78
    simp only [plV]
    try simp only [go_sem, ruB, aExt0, aExt1, hone2, hset]
    have hU9 : Upd m8 (m8.set (m6.next + 9) (some (.cells [.int .i64 (findP q.places U[i]).unit, .int .i64 (findP q.places U[i]).share, .int .i64 (findP q.places U[i]).core, yv] (some 4)))) [m6.next + 9] := Upd.set (by simp)
    have hcy9 : Bk (m8.set (m6.next + 9) (some (.cells [.int .i64 (findP q.places U[i]).unit, .int .i64 (findP q.places U[i]).share, .int .i64 (findP q.places U[i]).core, yv] (some 4)))) (m6.next + 9) [.int .i64 (findP q.places U[i]).unit, .int .i64 (findP q.places U[i]).share, .int .i64 (findP q.places U[i]).core, yv] 4 := ⟨by simp [Mem.set], by simp [Mem.set]; omega⟩
    generalize m8.set (m6.next + 9) (some (.cells [.int .i64 (findP q.places U[i]).unit, .int .i64 (findP q.places U[i]).share, .int .i64 (findP q.places U[i]).core, yv] (some 4))) = m9 at hU9 hcy9 ⊢
    have hcx9 := hc8.upd hU9 (by simp; omega)
    have hx59 : Ext m5 m9 := hU9.ext_of (hx57.trans hx78) (by simp; omega)
    have hx79 : Ext m7 m9 := hU9.ext_of hx78 (by simp; omega)
    have hyv9 : PcV m9 (findP q.places U[i]).pieces yv := hyv.keep (hx25.trans hx59)
    have hxv9 : PcV m9 (findP p.places U[i]).pieces xv := hxv.keep (hx25.trans hx59)
    have hulen : ((U.take i).filter (isU0 p.places q.places)).length ≤ i := Nat.le_trans (List.length_filter_le ..) (by rw [List.length_take]; omega)
    have htk : U.take (i + 1) = U.take i ++ [U[i]] := List.take_succ_eq_append_getElem g1
    have hstepT : isU0 p.places q.places U[i] = true → (U.take (i + 1)).filter (isU0 p.places q.places) = (U.take i).filter (isU0 p.places q.places) ++ [U[i]] := fun h => by
      rw [htk, List.filter_append]; simp [h]
    have hstepF : isU0 p.places q.places U[i] = false → (U.take (i + 1)).filter (isU0 p.places q.places) = (U.take i).filter (isU0 p.places q.places) := fun h => by
      rw [htk, List.filter_append]; simp [h]
    by_cases h1 : hasU p.places U[i]
    · by_cases h2 : hasU q.places U[i]
      · try simp only [go_sem, ruB, decide_eq_true h1, decide_eq_true h2, hcx9.at_, hcy9.at_]
        refine gC.of (refMoved_spec (x := findP p.places U[i]) (y := findP q.places U[i]) ⟨xv, rfl, hxv9⟩ ⟨yv, rfl, hyv9⟩ hlx hly) ?_
        rintro _ m10 ⟨rfl, hx10⟩
        by_cases h3 : refMov (findP p.places U[i]) (findP q.places U[i])
        · have hpr : isU0 p.places q.places U[i] = true := by unfold isU0; simp [h1, h2, h3]
          obtain ⟨b3, o3, d1, d2⟩ := (hs5.keep hlt5 (hx59.trans hx10)).geti g1
          rw [a1] at d1
          cases d1
          obtain ⟨v', mz, p1, p2⟩ := (ho.keep (hx59.trans hx10)).app (by_ := 8) (es := [.int .i64 U[i]]) (by omega) rfl rfl (by omega) (by omega)
          try simp only [go_sem, ruB, decide_eq_true h3, a1, d2, p1, s1]
          refine ⟨U.length - (i + 1), by omega, i + 1, v', by omega, rfl, rfl, ?_⟩
          rw [hstepT hpr, List.length_append]
          unfold intsZ at p2 ⊢
          rw [List.map_append]; exact p2
        · have hpr : isU0 p.places q.places U[i] = false := by unfold isU0; simp [h3]
          try simp only [go_sem, ruB, decide_eq_false h3, s1]
          refine ⟨U.length - (i + 1), by omega, i + 1, z, by omega, rfl, rfl, ?_⟩
          rw [hstepF hpr]; exact ho.keep (hx59.trans hx10)
      · have hpr : isU0 p.places q.places U[i] = false := by unfold isU0; simp [h2]
        try simp only [go_sem, ruB, decide_eq_true h1, decide_eq_false h2]
        try simp only [go_sem, ruB, hpr, s1]
        refine ⟨U.length - (i + 1), by omega, i + 1, z, by omega, rfl, rfl, ?_⟩
        rw [hstepF hpr]; exact ho.keep (hx59)
    · have hpr : isU0 p.places q.places U[i] = false := by unfold isU0; simp [h1]
      try simp only [go_sem, ruB, decide_eq_false h1]
      try simp only [go_sem, ruB, hpr, s1]
      refine ⟨U.length - (i + 1), by omega, i + 1, z, by omega, rfl, rfl, ?_⟩
      rw [hstepF hpr]; exact ho.keep (hx59)
  · have e1 : decide ((i : Int) < (U.length : Int)) = false := decide_eq_false (by omega)
    have hi2 : i = U.length := by omega
    subst hi2
    rw [List.take_length] at ho
    try simp only [go_sem, ruB, e1]
    exact ⟨ho.own.weak hX, hX.trans hx25⟩
end Go.Am


/- DiffT5 over the table of stagez (relayset.py). -/
set_option linter.unusedVariables false
set_option linter.unusedSimpArgs false
namespace Go.Am
open Classical
variable {m : Mem}

end Go.Am


/- DiffT6 over the table of stagez (relayset.py). -/
set_option linter.unusedVariables false
set_option linter.unusedSimpArgs false
namespace Go.Am
open Classical

theorem asc_ext {l k : List Int} (hl : l.Pairwise (· < ·)) (hk : k.Pairwise (· < ·)) (h : ∀ x, x ∈ l ↔ x ∈ k) : l = k := by
  have nd : ∀ {l : List Int}, l.Pairwise (· < ·) → l.Nodup := fun h => List.nodup_iff_pairwise_ne.2 (h.imp fun h => by omega)
  have hp : l.Perm k := (List.perm_ext_iff_of_nodup (nd hl) (nd hk)).2 h
  exact List.Perm.eq_of_pairwise (le := fun a b => a < b) (fun a b _ _ h1 h2 => by omega) hl hk hp

theorem compL_asc : ∀ {l : List Int}, l.Pairwise (· ≤ ·) → (compL l).Pairwise (· < ·) ∧ ∀ x, x ∈ compL l ↔ x ∈ l
  | [], _ => ⟨by simp [compL], fun x => Iff.rfl⟩
  | [a], _ => ⟨by simp [compL], fun x => Iff.rfl⟩
  | a :: b :: r, h => by
    rw [List.pairwise_cons] at h
    obtain ⟨h1, h2⟩ := compL_asc (l := b :: r) h.2
    simp only [compL]
    split
    · rename_i e
      subst e
      refine ⟨h1, fun x => ?_⟩
      rw [h2 x]; simp
    · rename_i hne
      refine ⟨List.pairwise_cons.2 ⟨fun x hx => ?_, h1⟩, fun x => ?_⟩
      · have hx' := (h2 x).1 hx
        have hab := h.1 b (by simp)
        rcases List.mem_cons.1 hx' with rfl | hr
        · omega
        · have := (List.pairwise_cons.1 h.2).1 x hr
          omega
      · rw [List.mem_cons, h2 x, List.mem_cons (a := x) (b := a)]

theorem unitsL_asc {a b : List Pl} : ∀ n, (unitsL a b n).Pairwise (· < ·) ∧ ∀ x : Int, x ∈ unitsL a b n ↔ (1 ≤ x ∧ x ≤ n ∧ (hasU a x ∨ hasU b x))
  | 0 => ⟨by simp [unitsL], fun x => by simp [unitsL]; omega⟩
  | n + 1 => by
    obtain ⟨h1, h2⟩ := unitsL_asc (a := a) (b := b) n
    unfold unitsL
    split
    · rename_i hc
      refine ⟨List.pairwise_append.2 ⟨h1, by simp, fun x hx y hy => ?_⟩, fun x => ?_⟩
      · have := (h2 x).1 hx
        simp at hy; omega
      · rw [List.mem_append, h2 x, List.mem_singleton]
        constructor
        · rintro (⟨g1, g2, g3⟩ | rfl)
          · exact ⟨g1, by omega, g3⟩
          · exact ⟨by omega, by omega, hc⟩
        · rintro ⟨g1, g2, g3⟩
          by_cases e : x = ((n + 1 : Nat) : Int)
          · exact .inr e
          · exact .inl ⟨g1, by omega, g3⟩
    · rename_i hc
      rw [List.append_nil]
      refine ⟨h1, fun x => ?_⟩
      rw [h2 x]
      constructor
      · rintro ⟨g1, g2, g3⟩; exact ⟨g1, by omega, g3⟩
      · rintro ⟨g1, g2, g3⟩
        by_cases e : x = ((n + 1 : Nat) : Int)
        · subst e; exact absurd g3 hc
        · exact ⟨g1, by omega, g3⟩

theorem mem_units {l : List PE} {P : List Pl} (h : l.map PE.pl = P) {u : Int} : u ∈ l.map unitE ↔ hasU P u := by
  subst h
  unfold hasU unitE
  constructor
  · intro hm
    obtain ⟨e, he, rfl⟩ := List.mem_map.1 hm
    obtain ⟨i, hi, rfl⟩ := List.getElem_of_mem he
    exact ⟨i, by simpa using hi, by simp⟩
  · rintro ⟨i, hi, rfl⟩
    refine List.mem_map.2 ⟨l[i]'(by simpa using hi), List.getElem_mem _, by simp⟩

/-- All units of two plans, sorted, each once. -/
theorem all_units {l k : List PE} {a b : List Pl} (hl : l.map PE.pl = a) (hk : k.map PE.pl = b) (ha : ∀ x ∈ a, 1 ≤ x.unit ∧ x.unit ≤ 1040) (hb : ∀ x ∈ b, 1 ≤ x.unit ∧ x.unit ≤ 1040) :
    compL (sortI (sortI (l.map unitE) ++ sortI (k.map unitE))) = unitsL a b 1040 := by
  obtain ⟨h1, h2⟩ := compL_asc (sortI_sorted (l := sortI (l.map unitE) ++ sortI (k.map unitE)))
  obtain ⟨g1, g2⟩ := unitsL_asc (a := a) (b := b) 1040
  refine asc_ext h1 g1 fun x => ?_
  rw [h2 x, g2 x, sortI_perm.mem_iff, List.mem_append, sortI_perm.mem_iff, sortI_perm.mem_iff, mem_units hl, mem_units hk]
  constructor
  · intro h
    have hr : 1 ≤ x ∧ x ≤ 1040 := by
      rcases h with ⟨i, hi, rfl⟩ | ⟨i, hi, rfl⟩
      · exact ha _ (List.getElem_mem hi)
      · exact hb _ (List.getElem_mem hi)
    exact ⟨hr.1, by omega, h⟩
  · exact fun h => h.2.2
end Go.Am


/- DiffT7 over the table of stagez (relayset.py). -/
set_option linter.unusedVariables false
set_option linter.unusedSimpArgs false
namespace Go.Am
open Classical

theorem lkp_asMap : ∀ {l : List PE} {u : Int}, (lkp (asMap l) u = none ∧ ∀ e ∈ l, unitE e ≠ u) ∨ ∃ e ∈ l, unitE e = u ∧ lkp (asMap l) u = some e
  | [], u => .inl ⟨rfl, by simp⟩
  | a :: l, u => by
    by_cases h : unitE a = u
    · exact .inr ⟨a, by simp, h, by simp only [asMap, List.map_cons, lkp]; rw [if_pos h]⟩
    · have e1 : lkp (asMap (a :: l)) u = lkp (asMap l) u := by
        simp only [asMap, List.map_cons, lkp]; rw [if_neg h]
      rw [e1]
      rcases lkp_asMap (l := l) (u := u) with ⟨h1, h2⟩ | ⟨e, he, h1, h2⟩
      · exact .inl ⟨h1, fun e he => by rcases List.mem_cons.1 he with rfl | he; exact h; exact h2 e he⟩
      · exact .inr ⟨e, by simp [he], h1, h2⟩

theorem hasE_eq {l : List PE} {P : List Pl} (h : l.map PE.pl = P) {u : Int} : hasE l u = decide (hasU P u) := by
  unfold hasE
  rcases lkp_asMap (l := l) (u := u) with ⟨h1, h2⟩ | ⟨e, he, h1, h2⟩
  · rw [h1]
    have : ¬ hasU P u := fun hu => by
      obtain ⟨e, he, g⟩ := List.mem_map.1 ((mem_units h).2 hu)
      exact h2 e he g
    rw [decide_eq_false this]; rfl
  · rw [h2, decide_eq_true ((mem_units h).1 (List.mem_map.2 ⟨e, he, h1⟩))]; rfl

theorem lkE_eq {l : List PE} {P : List Pl} (h : l.map PE.pl = P) (ha : Asc P) {u : Int} : (lkE l u).pl = findP P u := by
  unfold lkE
  rcases lkp_asMap (l := l) (u := u) with ⟨h1, h2⟩ | ⟨e, he, h1, h2⟩
  · rw [h1]
    have : ¬ hasU P u := fun hu => by
      obtain ⟨e, he, g⟩ := List.mem_map.1 ((mem_units h).2 hu)
      exact h2 e he g
    rw [findP_not this]; rfl
  · rw [h2]
    subst h
    obtain ⟨i, hi, rfl⟩ := List.getElem_of_mem he
    have hi' : i < (l.map PE.pl).length := by simpa using hi
    rw [findP_at ha hi' (by rw [List.getElem_map]; exact h1)]
    simp

/-- Moved, where ticks tell pieces apart. -/
theorem moved_eq {l k : List PE} {a b : List Pl} (hl : l.map PE.pl = a) (hk : k.map PE.pl = b) (aa : Asc a) (ab : Asc b) (ha : ∀ x ∈ a, 1 ≤ x.unit ∧ x.unit ≤ 1040) (hb : ∀ x ∈ b, 1 ≤ x.unit ∧ x.unit ≤ 1040)
    (hm : ∀ x ∈ a, ∀ y ∈ b, (refMov x y ↔ (x.pieces ≠ y.pieces ∨ (x.pieces.length = 0 ∧ x.core ≠ y.core)))) :
    someL l k MovP = listL (isU0 a b) a b := by
  unfold someL listL
  rw [all_units hl hk ha hb]
  refine List.filter_congr fun u hu => ?_
  unfold MovP isU0
  rw [hasE_eq hl, hasE_eq hk]
  by_cases h1 : hasU a u
  · by_cases h2 : hasU b u
    · have e1 := lkE_eq hl aa (u := u)
      have e2 := lkE_eq hk ab (u := u)
      obtain ⟨i, hi, hiu⟩ := h1
      obtain ⟨j, hj, hju⟩ := h2
      have f1 := findP_at aa hi hiu
      have f2 := findP_at ab hj hju
      have hh := hm _ (List.getElem_mem hi) _ (List.getElem_mem hj)
      have : movP (lkE l u) (lkE k u) = decide (refMov (findP a u) (findP b u)) := by
        unfold movP
        rw [e1, e2, f1, f2, Bool.eq_iff_iff, decide_eq_true_eq, hh]
        simp
      rw [this]
    · simp [h2]
  · simp [h1]
end Go.Am


/- DiffT8 over the table of stagez (relayset.py). -/
set_option linter.unusedVariables false
set_option linter.unusedSimpArgs false
namespace Go.Am
open Classical

/-- Pieces as a right plan has them. -/
structure PcsR (ps : List Pc) : Prop where
  core : ∀ q ∈ ps, 0 ≤ q.1 ∧ q.1 < 16
  asc : ps.Pairwise fun a b => a.1 < b.1
  nz : ∀ q ∈ ps, q.2 ≠ 0#64

theorem bv_bit {x : BitVec 64} (h : x ≠ 0#64) : ∃ t, t < 64 ∧ x.getLsbD t = true := by
  apply Classical.byContradiction
  intro hn
  apply h
  apply BitVec.eq_of_getLsbD_eq
  intro i hi
  have : ¬ x.getLsbD i = true := fun e => hn ⟨i, hi, e⟩
  simp only [BitVec.getLsbD_zero]
  simpa using this

/-- Rows of pieces with the same members are the same. -/
theorem pcs_ext {l k : List Pc} (hl : l.Pairwise fun a b => a.1 < b.1) (hk : k.Pairwise fun a b => a.1 < b.1) (h : ∀ x, x ∈ l ↔ x ∈ k) : l = k := by
  have nd : ∀ {l : List Pc}, l.Pairwise (fun a b => a.1 < b.1) → l.Nodup := fun h => List.nodup_iff_pairwise_ne.2 (h.imp fun {a b} h e => by subst e; omega)
  have hp : l.Perm k := (List.perm_ext_iff_of_nodup (nd hl) (nd hk)).2 h
  exact List.Perm.eq_of_pairwise (le := fun a b : Pc => a.1 < b.1) (fun a b _ _ h1 h2 => by omega) hl hk hp

theorem inB_nat {a : BitVec 64} {t : Nat} (ht : t < 64) : inB a (t : Int) = a.getLsbD t := by
  unfold inB
  have h1 : (t : Int) < 64 := by omega
  simp [h1]
theorem count_none {ps : List Pc} {c : Int} (hc0 : 0 ≤ c) (hc : ∀ q ∈ ps, q.1 ≠ c) {t : Int} : ps.countP (atB c t) = 0 := by
  rw [List.countP_eq_zero]
  intro q hq
  unfold atB
  have : ¬ c < 0 := by omega
  simp [this, hc q hq]
/-- How often a tick of a core is met: once, if its piece has it. -/
theorem count_mem : ∀ {ps : List Pc}, (ps.Pairwise fun a b => a.1 < b.1) → (∀ q ∈ ps, 0 ≤ q.1) → ∀ {q : Pc}, q ∈ ps → ∀ {t : Nat}, t < 64 → ps.countP (atB q.1 t) = if q.2.getLsbD t then 1 else 0
  | [], _, _, q, hq, t, ht => by cases hq
  | a :: ps, h, h0, q, hq, t, ht => by
    rw [List.pairwise_cons] at h
    rw [List.countP_cons]
    have hq0 : ¬ q.1 < 0 := by have := h0 q hq; omega
    rcases List.mem_cons.1 hq with rfl | hq'
    · rw [count_none (h0 _ hq) fun x hx => by have := h.1 x hx; omega]
      unfold atB
      rw [inB_nat ht]
      simp [hq0]
    · rw [count_mem h.2 (fun x hx => h0 x (by simp [hx])) hq' ht]
      have hne : a.1 ≠ q.1 := by have := h.1 q hq'; omega
      have : atB q.1 t a = false := by unfold atB; simp [hq0, hne]
      rw [this]; simp

theorem PcsR.mem_of {ps qs : List Pc} (hp : PcsR ps) (hq : PcsR qs) (h : ∀ c : Nat, c < 16 → ∀ t : Nat, t < 64 → ps.countP (atB c t) = qs.countP (atB c t)) {x : Pc} (hx : x ∈ ps) : x ∈ qs := by
  have hc := hp.core x hx
  obtain ⟨c, hc'⟩ : ∃ c : Nat, (c : Int) = x.1 := ⟨x.1.toNat, by omega⟩
  obtain ⟨t, ht, hb⟩ := bv_bit (hp.nz x hx)
  have hall := h c (by omega)
  rw [hc'] at hall
  have h1 := hall t ht
  rw [count_mem hp.asc (fun q hq => (hp.core q hq).1) hx ht, if_pos hb] at h1
  have : ∃ y ∈ qs, y.1 = x.1 := by
    apply Classical.byContradiction
    intro hn
    rw [count_none hc.1 fun q hq e => hn ⟨q, hq, e⟩] at h1
    omega
  obtain ⟨y, hy, hyx⟩ := this
  have e2 : y.2 = x.2 := by
    apply BitVec.eq_of_getLsbD_eq
    intro i hi
    have g := hall i hi
    rw [count_mem hp.asc (fun q hq => (hp.core q hq).1) hx hi] at g
    have g2 := count_mem hq.asc (fun q hq' => (hq.core q hq').1) hy hi
    rw [hyx] at g2
    rw [g2] at g
    cases h1 : x.2.getLsbD i <;> cases h2 : y.2.getLsbD i <;> rw [h1, h2] at g <;> first | rfl | (simp at g)
  have : y = x := Prod.ext hyx e2
  rw [← this]; exact hy

theorem refMov_right {x y : Pl} (hx : PcsR x.pieces) (hy : PcsR y.pieces) (cx : x.pieces.length = 0 → 0 ≤ x.core ∧ x.core < 16) :
    refMov x y ↔ (x.pieces ≠ y.pieces ∨ (x.pieces.length = 0 ∧ x.core ≠ y.core)) := by
  constructor
  · intro h
    apply Classical.byContradiction
    intro hn
    have he : x.pieces = y.pieces := Classical.byContradiction fun e => hn (.inl e)
    obtain ⟨c, hc, h | ⟨t, ht, h⟩⟩ := h
    · apply h
      unfold onP
      rw [← he]
      by_cases h0 : x.pieces.length = 0
      · have : x.core = y.core := Classical.byContradiction fun e => hn (.inr ⟨h0, e⟩)
        rw [if_pos h0, if_pos h0, this]
      · rw [if_neg h0, if_neg h0]
    · apply h; rw [he]
  · intro h
    apply Classical.byContradiction
    intro hn
    have hall : ∀ c : Nat, c < 16 → ∀ t : Nat, t < 64 → x.pieces.countP (atB c t) = y.pieces.countP (atB c t) := fun c hc t ht => Classical.byContradiction fun e => hn ⟨c, hc, .inr ⟨t, ht, e⟩⟩
    have hon : ∀ c : Nat, c < 16 → onP x c = onP y c := fun c hc => Classical.byContradiction fun e => hn ⟨c, hc, .inl e⟩
    have he : x.pieces = y.pieces := pcs_ext hx.asc hy.asc fun q => ⟨fun h => hx.mem_of hy hall h, fun h => hy.mem_of hx (fun c hc t ht => (hall c hc t ht).symm) h⟩
    rcases h with h | ⟨h0, h⟩
    · exact h he
    · obtain ⟨g1, g2⟩ := cx h0
      obtain ⟨c, hc⟩ : ∃ c : Nat, (c : Int) = x.core := ⟨x.core.toNat, by omega⟩
      have := hon c (by omega)
      unfold onP at this
      rw [← he, if_pos h0, if_pos h0, hc] at this
      simp at this
      exact h this.symm
end Go.Am


/- DiffT9 over the table of stagez (relayset.py). -/
set_option linter.unusedVariables false
set_option linter.unusedSimpArgs false
namespace Go.Am
open Classical

theorem RightP.units {p : PlanD} (h : RightP p) : ∀ x ∈ p.places, 1 ≤ x.unit ∧ x.unit ≤ 1040 := fun x hx => by
  have := (h.place hx).1
  unfold isU at this; omega
theorem RightP.ascD {p : PlanD} (h : RightP p) : Asc p.places := by
  intro i j hij hj
  induction j with
  | zero => omega
  | succ j ih =>
    obtain ⟨_, _, g⟩ := h.2.2.2.2.1 (j + 1) hj
    have g := g (by omega)
    simp only [Nat.add_sub_cancel] at g
    by_cases e : i = j
    · subst e; exact g
    · have := ih (by omega) (by omega); omega
theorem RightP.pcsR {p : PlanD} (h : RightP p) {x : Pl} (hx : x ∈ p.places) : PcsR x.pieces := by
  obtain ⟨-, -, -, -, h5⟩ := h.place hx
  by_cases h0 : x.pieces.length = 0
  · have e : x.pieces = [] := List.eq_nil_of_length_eq_zero h0
    rw [e]
    exact ⟨by simp, by simp, by simp⟩
  · obtain ⟨g, -⟩ := h5 h0
    refine ⟨fun q hq => ?_, ?_, fun q hq => ?_⟩
    · obtain ⟨i, hi, rfl⟩ := List.getElem_of_mem hq
      obtain ⟨_, a, -⟩ := g i hi
      exact hasC_range a
    · refine (List.pairwise_iff_getElem (R := fun (a b : Pc) => a.1 < b.1)).2 fun i j hi hj hij => ?_
      induction j with
      | zero => omega
      | succ j ih =>
        obtain ⟨_, _, b, -⟩ := g (j + 1) hj
        have b := b (by omega)
        simp only [Nat.add_sub_cancel] at b
        by_cases e : i = j
        · subst e; exact b
        · have := ih (by omega) (by omega); omega
    · obtain ⟨i, hi, rfl⟩ := List.getElem_of_mem hq
      obtain ⟨_, _, _, c⟩ := g i hi
      exact c
theorem RightP.core0 {p : PlanD} (h : RightP p) {x : Pl} (hx : x ∈ p.places) : x.pieces.length = 0 → 0 ≤ x.core ∧ x.core < 16 := fun h0 => hasC_range ((h.place hx).2.2.2.1 h0)

end Go.Am


/- The stage: its state, and own. -/
set_option linter.unusedVariables false
set_option linter.unusedSimpArgs false
namespace Go.Am
open Classical
variable {m : Mem}

/-- A plan as it lies, out of some blocks. -/
def PlanE (m : Mem) (fp : List Nat) (p : PlanD) (v : Value) : Prop :=
  ∃ l : List PE, l.map PE.pl = p.places ∧ RowS m l v ∧ (∀ b ∈ vb v, b ∉ fp) ∧ ∀ e ∈ l, PcV m e.pl.pieces e.pv ∧ ∀ b ∈ vb e.pv, b ∉ fp
theorem PlanE.keep {m m' : Mem} {fp : List Nat} {p : PlanD} {v : Value} (h : PlanE m fp p v) (hx : Ext m m') : PlanE m' fp p v :=
  let ⟨l, a, b, c, d⟩ := h; ⟨l, a, b.keep hx, c, fun e he => ⟨(d e he).1.keep hx, (d e he).2⟩⟩
theorem PlanE.upd {m m' : Mem} {fp : List Nat} {p : PlanD} {v : Value} (h : PlanE m fp p v) (hx : Upd m m' fp) : PlanE m' fp p v :=
  let ⟨l, a, b, c, d⟩ := h; ⟨l, a, ⟨b.sl.upd b.lt (SlOff.vb_iff.2 c) hx, b.lt.upd hx⟩, c, fun e he => ⟨(d e he).1.upd hx (d e he).2, (d e he).2⟩⟩
theorem PlanE.pls {m : Mem} {fp : List Nat} {p : PlanD} {v : Value} (h : PlanE m fp p v) : PlsV m p.places v := by
  obtain ⟨l, a, b, c, d⟩ := h
  rw [← a]
  refine ⟨l.flatMap peV, by rw [List.length_map]; exact b.sl, b.lt, fun i hi => ?_⟩
  have hi' : i < l.length := by simpa using hi
  refine ⟨l[i].pv, ?_, ?_⟩
  · rw [flat_drop peV_len hi']; simp [peV]
  · have := (d _ (List.getElem_mem hi')).1
    simpa using this
theorem PlanE.one {m : Mem} {fp : List Nat} {p : PlanD} {v : Value} (h : PlanE m fp p v) : v.oneCell' = true := let ⟨_, _, b, _⟩ := h; b.sl.one
theorem PlanE.slice {m : Mem} {fp : List Nat} {p : PlanD} {v : Value} (h : PlanE m fp p v) : ∃ a n c, v = .slice a n c := by
  obtain ⟨l, a, b, c, d⟩ := h
  cases b.sl <;> exact ⟨_, _, _, rfl⟩
theorem PlanE.new {M m : Mem} {l : List PE} {v : Value} {p : PlanD} {fp : List Nat} (h : NewPls M m l v) (hl : l.map PE.pl = p.places) (hf : ∀ x ∈ fp, x < M.next) : PlanE m fp p v :=
  ⟨l, hl, ⟨h.pls.own.sl, h.pls.own.lt⟩, fun b hb hm => by have := h.pls.own.ge b hb; have := hf b hm; omega, fun e he => ⟨(h.pls.el e he).1, fun b hb hm => by have := h.new e he b hb; have := hf b hm; omega⟩⟩

/-- Plans that a stage holds. -/
structure Good (p : PlanD) : Prop where
  fr : 2 ≤ p.frame
  asc : Asc p.places
  rng : ∀ x ∈ p.places, 1 ≤ x.unit ∧ x.unit ≤ 1040
  pcr : ∀ x ∈ p.places, PcsR x.pieces
  cor : ∀ x ∈ p.places, x.pieces.length = 0 → 0 ≤ x.core ∧ x.core < 16
  light : lightP p = true
theorem Good.of {p : PlanD} (hc : CheckP p) (hl : lightP p = true) : Good p := by
  have hr := check_iff.1 hc
  exact ⟨hc.1, hr.ascD, hr.units, fun x hx => hr.pcsR hx, fun x hx => hr.core0 hx, hl⟩
theorem asc_pw {l : List Pl} (h : Asc l) : l.Pairwise fun a b => a.unit < b.unit := List.pairwise_iff_getElem.2 fun i j hi hj hij => h i j hij hj
theorem pw_asc {l : List Pl} (h : l.Pairwise fun a b => a.unit < b.unit) : Asc l := fun i j hij hj => List.pairwise_iff_getElem.1 h i j (by omega) hj hij
theorem Good.dropped {p : PlanD} (h : Good p) (u : Int) : Good { p with places := dropU p.places u } := by
  have hs : ∀ x ∈ dropU p.places u, x ∈ p.places := fun x hx => (List.mem_filter.1 hx).1
  have hll : (dropU p.places u).length ≤ p.places.length := List.length_filter_le ..
  refine ⟨h.fr, pw_asc ((asc_pw h.asc).filter _), fun x hx => h.rng x (hs x hx), fun x hx => h.pcr x (hs x hx), fun x hx => h.cor x (hs x hx), ?_⟩
  have hl := h.light
  simp only [lightP, Bool.and_eq_true, decide_eq_true_eq, List.all_eq_true] at hl ⊢
  refine ⟨fun x hx => hl.1 x ?_, by omega⟩
  rw [List.take_of_length_le (by omega)]
  exact hs x (List.mem_of_mem_take hx)
theorem Good.l {p : PlanD} (h : Good p) : PlanL p := by
  have h := h.light
  simp only [lightP, Bool.and_eq_true, decide_eq_true_eq, List.all_eq_true] at h
  refine ⟨by omega, fun x hx => ?_⟩
  have := h.1 x (by rw [List.take_of_length_le (by omega)]; exact hx)
  omega
theorem Good.len {p : PlanD} (h : Good p) : p.places.length ≤ 60 := by
  have h := h.light
  simp only [lightP, Bool.and_eq_true, decide_eq_true_eq] at h; exact h.2
theorem Good.drop0 {p : PlanD} (h : Good p) : dropU p.places 0 = p.places := dropU_not fun k hk e => by
  have := h.rng _ (List.getElem_mem hk); omega
theorem Good.ok {p : PlanD} (h : Good p) {l : List PE} (hl : l.map PE.pl = p.places) : OkE l := by
  have hu : l.map unitE = p.places.map (·.unit) := by rw [← hl, List.map_map]; rfl
  refine ⟨fun e he => ?_, ?_, ?_⟩
  · have : e.pl ∈ p.places := by rw [← hl]; exact List.mem_map.2 ⟨e, he, rfl⟩
    have := h.rng _ this
    show (Lit.int .i64 e.pl.unit).wf = true
    have h1 : IntKind.min .i64 = -9223372036854775808 := by decide
    have h2 : IntKind.max .i64 = 9223372036854775807 := by decide
    simp only [Lit.wf, h1, h2, Bool.and_eq_true, decide_eq_true_eq]
    omega
  · rw [hu, List.nodup_iff_pairwise_ne, List.pairwise_map]
    refine (List.pairwise_iff_getElem (R := fun (a b : Pl) => a.unit ≠ b.unit)).2 fun i j hi hj hij => ?_
    have := h.asc i j hij hj
    omega
  · have := h.len
    rw [← List.length_map (f := PE.pl), hl]; omega

theorem own_spec {p : PlanD} {v : Value} (hv : PlsV m p.places v) (hg : Good p) :
    WC R F.stage_own [.agg (planV p v).toArray] m fun r m' => ∃ lv, r = .agg (planV p lv).toArray ∧ ∀ fp, (∀ x ∈ fp, x < m.next) → PlanE m' fp p lv ∧ Ext m m' := by
  refine WC.of R.stage_own rfl ?_
  simp only [RC.stage_own, planV, go_sem, hv.one]
  have hx1 : Ext m (m.new (.cells [.int .i64 p.frame, u32 p.cores, v] (some 3))) := Ext.new
  have hb1 : Bk (m.new (.cells [.int .i64 p.frame, u32 p.cores, v] (some 3))) m.next [.int .i64 p.frame, u32 p.cores, v] 3 := Bk.new
  generalize m.new (.cells [.int .i64 p.frame, u32 p.cores, v] (some 3)) = m1 at hx1 hb1 ⊢
  have hx2 : Ext m1 (m1.new (.cells [.int .i64 0, u32 0#32, .slice none 0 0] (some 3))) := Ext.new
  have hb2 : Bk (m1.new (.cells [.int .i64 0, u32 0#32, .slice none 0 0] (some 3))) m1.next [.int .i64 0, u32 0#32, .slice none 0 0] 3 := Bk.new
  generalize m1.new (.cells [.int .i64 0, u32 0#32, .slice none 0 0] (some 3)) = m2 at hx2 hb2 ⊢
  have hb12 := hb1.keep hx2
  have hX := hx1.trans hx2
  try simp only [go_sem, ruB, hb12.at_]
  refine gC.of (Drop_spec (p := p) (u := 0) ⟨v, rfl, hv.keep hX⟩ hg.l (by have := hg.len; omega) hg.asc) ?_
  rintro _ m3 ⟨l, lv, rfl, hl, hN⟩
  rw [hg.drop0] at hl
  have hlo := hN.pls.own.sl.one
  obtain ⟨wa, wn, wc, rfl⟩ := slice_of hN.pls.own
  have hr := hb2.keep hN.pls.ext
  simp only [planV]
  try simp only [go_sem, ruB, hlo, hr.at_]
  have hn1 := hb1.lt
  have hn2 := hb2.lt
  have hU : ∀ {m'}, Upd m3 m' [m1.next] → NewPls m m' l (.slice wa wn wc) := fun hU => (hN.weak hX).box hU (by have := hx1.next; simp; omega) (by simpa using (hN.out (x := m1.next) (.inl hn2)).1) (fun b hb e he => by simp at hb; subst hb; exact (hN.out (x := m1.next) (.inl hn2)).2 e he)
  have fin : ∀ {m'}, NewPls m m' l (.slice wa wn wc) → ∀ fp, (∀ x ∈ fp, x < m.next) → PlanE m' fp p (.slice wa wn wc) ∧ Ext m m' := fun hN2 fp hf => ⟨PlanE.new hN2 hl hf, hN2.pls.ext⟩
  refine ⟨_, rfl, fin (hU ?_)⟩
  exact Upd.set (by simp)
end Go.Am


/- The stage's methods. -/
set_option linter.unusedVariables false
set_option linter.unusedSimpArgs false
namespace Go.Am
open Classical
variable {m : Mem}

/-- A stage at s. -/
structure StV (m : Mem) (s : Nat) (fp : List Nat) (A S : PlanD) (n : Int) (av sv : Value) : Prop where
  bk : Bk m s [.int .i64 A.frame, u32 A.cores, av, .int .i64 S.frame, u32 S.cores, sv, .int .i64 n] 7
  a : PlanE m fp A av
  s_ : PlanE m fp S sv
  ga : Good A
  gs : Good S
theorem StV.keep {m m' : Mem} {s : Nat} {fp : List Nat} {A S : PlanD} {n : Int} {av sv : Value} (h : StV m s fp A S n av sv) (hx : Ext m m') : StV m' s fp A S n av sv := ⟨h.bk.keep hx, h.a.keep hx, h.s_.keep hx, h.ga, h.gs⟩
theorem StV.upd {m m' : Mem} {s : Nat} {fp fq : List Nat} {A S : PlanD} {n : Int} {av sv : Value} (h : StV m s fp A S n av sv) (hx : Upd m m' fq) (hs : s ∉ fq) (hq : ∀ x ∈ fq, x ∈ fp) : StV m' s fp A S n av sv :=
  have hx' : Upd m m' fp := ⟨hx.next, fun b hb hn => hx.same b hb fun hm => hn (hq b hm)⟩
  ⟨h.bk.upd hx hs, h.a.upd hx', h.s_.upd hx', h.ga, h.gs⟩

theorem none_spec {s : Nat} {fp : List Nat} {A S : PlanD} {n : Int} {av sv : Value} (h : StV m s fp A S n av sv) : WC R F.stage_Stage_none [pt s] m fun r m' => r = .bool false ∧ m' = m := by
  refine WC.of R.stage_Stage_none rfl ?_
  have hf := h.ga.fr
  have e : ((A.frame : Int) == 0) = false := by rw [beq_eq_false_iff_ne]; omega
  simp only [RC.stage_Stage_none, pt, go_sem, ruB, h.bk.at_, e]

theorem Active_spec {s : Nat} {fp : List Nat} {A S : PlanD} {n : Int} {av sv : Value} (h : StV m s fp A S n av sv) :
    WC R F.stage_Stage_Active [pt s] m fun r m' => ∃ lv, r = .agg (planV A lv).toArray ∧ ∀ fq, (∀ x ∈ fq, x < m.next) → PlanE m' fq A lv ∧ Ext m m' := by
  refine WC.of R.stage_Stage_Active rfl ?_
  simp only [RC.stage_Stage_Active, pt, go_sem]
  have hx1 : Ext m (m.new (.cells [.int .i64 0, u32 0#32, .slice none 0 0] (some 3))) := Ext.new
  have hb1 : Bk (m.new (.cells [.int .i64 0, u32 0#32, .slice none 0 0] (some 3))) m.next [.int .i64 0, u32 0#32, .slice none 0 0] 3 := Bk.new
  generalize m.new (.cells [.int .i64 0, u32 0#32, .slice none 0 0] (some 3)) = m1 at hx1 hb1 ⊢
  have h1 := h.keep hx1
  refine gC.of (none_spec h1) ?_
  rintro _ _ ⟨rfl, hm⟩
  replace hm := hm.symm
  subst hm
  try simp only [go_sem, ruB, h1.bk.at_]
  refine gC.of (own_spec (p := A) h1.a.pls h1.ga) ?_
  rintro _ m2 ⟨lv, rfl, hP⟩
  have hx2 := (hP [] (by simp)).2
  have hlo := (hP [] (by simp)).1.one
  obtain ⟨wa, wn, wc, rfl⟩ := (hP [] (by simp)).1.slice
  have hr := hb1.keep hx2
  simp only [planV]
  try simp only [go_sem, ruB, hlo, hr.at_]
  have hl1 := hb1.lt
  have fin : ∀ {m'}, Upd m2 m' [m.next] → ∀ fq, (∀ x ∈ fq, x < m.next) → PlanE m' fq A (.slice wa wn wc) ∧ Ext m m' := fun hU fq hf => by
    have k := (hP (m.next :: fq) (by intro x hx; rcases List.mem_cons.1 hx with rfl | hx; exact hl1; have := hf x hx; omega)).1
    have hU' : Upd m2 _ (m.next :: fq) := ⟨hU.next, fun b hb hn => hU.same b hb fun hm => hn (by simp at hm; simp [hm])⟩
    have k := k.upd hU'
    refine ⟨?_, hU.ext_of (hx1.trans hx2) (by simp)⟩
    obtain ⟨l, a, b, c, d⟩ := k
    exact ⟨l, a, b, fun x hx hm => c x hx (by simp [hm]), fun e he => ⟨(d e he).1, fun x hx hm => (d e he).2 x hx (by simp [hm])⟩⟩
  refine ⟨_, rfl, fin ?_⟩
  exact Upd.set (by simp)
theorem Staged_spec {s : Nat} {fp : List Nat} {A S : PlanD} {n : Int} {av sv : Value} (h : StV m s fp A S n av sv) :
    WC R F.stage_Stage_Staged [pt s] m fun r m' => ∃ lv, r = .agg (planV S lv).toArray ∧ ∀ fq, (∀ x ∈ fq, x < m.next) → PlanE m' fq S lv ∧ Ext m m' := by
  refine WC.of R.stage_Stage_Staged rfl ?_
  simp only [RC.stage_Stage_Staged, pt, go_sem]
  have hx1 : Ext m (m.new (.cells [.int .i64 0, u32 0#32, .slice none 0 0] (some 3))) := Ext.new
  have hb1 : Bk (m.new (.cells [.int .i64 0, u32 0#32, .slice none 0 0] (some 3))) m.next [.int .i64 0, u32 0#32, .slice none 0 0] 3 := Bk.new
  generalize m.new (.cells [.int .i64 0, u32 0#32, .slice none 0 0] (some 3)) = m1 at hx1 hb1 ⊢
  have h1 := h.keep hx1
  refine gC.of (none_spec h1) ?_
  rintro _ _ ⟨rfl, hm⟩
  replace hm := hm.symm
  subst hm
  try simp only [go_sem, ruB, h1.bk.at_]
  refine gC.of (own_spec (p := S) h1.s_.pls h1.gs) ?_
  rintro _ m2 ⟨lv, rfl, hP⟩
  have hx2 := (hP [] (by simp)).2
  have hlo := (hP [] (by simp)).1.one
  obtain ⟨wa, wn, wc, rfl⟩ := (hP [] (by simp)).1.slice
  have hr := hb1.keep hx2
  simp only [planV]
  try simp only [go_sem, ruB, hlo, hr.at_]
  have hl1 := hb1.lt
  have fin : ∀ {m'}, Upd m2 m' [m.next] → ∀ fq, (∀ x ∈ fq, x < m.next) → PlanE m' fq S (.slice wa wn wc) ∧ Ext m m' := fun hU fq hf => by
    have k := (hP (m.next :: fq) (by intro x hx; rcases List.mem_cons.1 hx with rfl | hx; exact hl1; have := hf x hx; omega)).1
    have hU' : Upd m2 _ (m.next :: fq) := ⟨hU.next, fun b hb hn => hU.same b hb fun hm => hn (by simp at hm; simp [hm])⟩
    have k := k.upd hU'
    refine ⟨?_, hU.ext_of (hx1.trans hx2) (by simp)⟩
    obtain ⟨l, a, b, c, d⟩ := k
    exact ⟨l, a, b, fun x hx hm => c x hx (by simp [hm]), fun e he => ⟨(d e he).1, fun x hx hm => (d e he).2 x hx (by simp [hm])⟩⟩
  refine ⟨_, rfl, fin ?_⟩
  exact Upd.set (by simp)
end Go.Am


/- The stage's methods: Set, Turn. -/
set_option linter.unusedVariables false
set_option linter.unusedSimpArgs false
namespace Go.Am
open Classical
variable {m : Mem}

set_option maxHeartbeats 4000000 in
theorem Set_spec {s : Nat} {fp : List Nat} {A S p : PlanD} {n : Int} {av sv pv : Value} (h : StV m s fp A S n av sv) (hs : s ∈ fp) (hf : ∀ x ∈ fp, x < m.next) (hp : PlsV m p.places pv) (hli : lightP p = true) (hpl : PlanL p) :
    WC R F.stage_Stage_Set [pt s, .agg (planV p pv).toArray] m fun r m' => Upd m m' [s] ∧ ((CheckP p ∧ p.frame = A.frame ∧ r = .int .i64 0 ∧ ∃ lv, StV m' s fp A p n av lv) ∨ (¬ (CheckP p ∧ p.frame = A.frame) ∧ r = .int .i64 30 ∧ StV m' s fp A S n av sv)) := by
  refine WC.of R.stage_Stage_Set rfl ?_
  simp only [RC.stage_Stage_Set, pt, planV, go_sem, hp.one]
  have hx1 : Ext m (m.new (.cells [.int .i64 p.frame, u32 p.cores, pv] (some 3))) := Ext.new
  have hb1 : Bk (m.new (.cells [.int .i64 p.frame, u32 p.cores, pv] (some 3))) m.next [.int .i64 p.frame, u32 p.cores, pv] 3 := Bk.new
  generalize m.new (.cells [.int .i64 p.frame, u32 p.cores, pv] (some 3)) = m1 at hx1 hb1 ⊢
  have h1 := h.keep hx1
  have hp1 := hp.keep hx1
  refine gC.of (none_spec h1) ?_
  rintro _ _ ⟨rfl, hm⟩
  replace hm := hm.symm
  subst hm
  try simp only [go_sem, ruB, hb1.at_]
  refine gC.of (Check_spec (p := p) ⟨pv, rfl, hp1.keep (by first | exact Ext.refl _ | exact Ext.bump)⟩ hpl) ?_
  rintro _ m2 ⟨rfl, hx2⟩
  have hx12 : Ext m1 m2 := by first | exact hx2 | exact Ext.bump.trans hx2
  have h2 := h1.keep hx12
  have hb2 := hb1.keep hx12
  have hp2 := hp1.keep hx12
  by_cases hc : CheckP p
  · have e1 : chk p = .int .i64 0 := (chk_yes hc).symm
    have e2 : (((0 : Int)) != 0) = false := rfl
    try simp only [go_sem, ruB, e1, e2, hb2.at_, h2.bk.at_]
    by_cases hfr : p.frame = A.frame
    · have e3 : ((p.frame : Int) != A.frame) = false := by rw [bne_eq_false_iff_eq]; exact hfr
      try simp only [go_sem, ruB, e3, hb2.at_]
      refine gC.of (own_spec (p := p) hp2 (Good.of hc hli)) ?_
      rintro _ m3 ⟨lv, rfl, hP⟩
      have hle : m.next ≤ m2.next := Nat.le_trans hx1.next hx12.next
      obtain ⟨hP3, hx3⟩ := hP fp (fun x hx => by have := hf x hx; omega)
      have h3 := h2.keep hx3
      have hlo := hP3.one
      obtain ⟨wa, wn, wc, rfl⟩ := hP3.slice
      simp only [planV]
      try simp only [go_sem, ruB, hlo, h3.bk.at_]
      have hlts := h3.bk.lt
      have fin : ∀ {m'}, Upd m3 m' [s] → Bk m' s [.int .i64 A.frame, u32 A.cores, av, .int .i64 p.frame, u32 p.cores, .slice wa wn wc, .int .i64 n] 7 → Upd m m' [s] ∧ ((CheckP p ∧ p.frame = A.frame ∧ Value.int .i64 0 = .int .i64 0 ∧ ∃ lv, StV m' s fp A p n av lv) ∨ (¬ (CheckP p ∧ p.frame = A.frame) ∧ Value.int .i64 0 = .int .i64 30 ∧ StV m' s fp A S n av sv)) := fun {m'} hU hb => by
        have hU' : Upd m3 m' fp := ⟨hU.next, fun b hb hn => hU.same b hb fun hm => hn (by simp at hm; rw [hm]; exact hs)⟩
        exact ⟨((hx1.trans hx12).trans hx3).upd.trans hU (fp := []) (fun _ h => by simp at h) (fun _ h => .inl h), .inl ⟨hc, hfr, rfl, _, hb, h3.a.upd hU', hP3.upd hU', h3.ga, Good.of hc hli⟩⟩
      have k := fin (m' := m3.set s (some (.cells [.int .i64 A.frame, u32 A.cores, av, .int .i64 p.frame, u32 p.cores, .slice wa wn wc, .int .i64 n] (some 7)))) (Upd.set (by simp)) ⟨by simp [Mem.set], by simpa [Mem.set] using hlts⟩
      simpa using k
    · have e3 : ((p.frame : Int) != A.frame) = true := by rw [bne_iff_ne]; exact hfr
      try simp only [go_sem, ruB, e3]
      exact ⟨(hx1.trans hx12).upd, .inr ⟨fun h => hfr h.2, h2⟩⟩
  · have e1 : chk p = .int .i64 30 := (chk_no hc).symm
    have e2 : (((30 : Int)) != 0) = true := rfl
    try simp only [go_sem, ruB, e1, e2]
    exact ⟨(hx1.trans hx12).upd, .inr ⟨fun h => hc h.1, h2⟩⟩
end Go.Am


/- The stage's methods: Turn, New. -/
set_option linter.unusedVariables false
set_option linter.unusedSimpArgs false
namespace Go.Am
open Classical
variable {m : Mem}

theorem Good.pcs' {p : PlanD} (h : Good p) {l : List PE} (hl : l.map PE.pl = p.places) : ∀ e ∈ l, e.pl.pieces.length < 1000000 := fun e he => h.l.pcs _ (by rw [← hl]; exact List.mem_map.2 ⟨e, he, rfl⟩)

set_option maxHeartbeats 4000000 in
theorem Turn_spec {s : Nat} {fp : List Nat} {A S : PlanD} {n : Int} {av sv : Value} (h : StV m s fp A S n av sv) (hs : s ∈ fp) (hf : ∀ x ∈ fp, x < m.next) (hn : 0 ≤ n ∧ n < 1000000) :
    WC R F.stage_Stage_Turn [pt s] m fun r m' => Upd m m' [s] ∧ (∃ lv, StV m' s fp S S (n + 1) lv sv) ∧ ∃ la lk : List PE, la.map PE.pl = A.places ∧ lk.map PE.pl = S.places ∧ Own m m' 1 (someL la lk MovP).length (intsZ (someL la lk MovP)) r := by
  refine WC.of R.stage_Stage_Turn rfl ?_
  simp only [RC.stage_Stage_Turn, pt, go_sem]
  refine gC.of (none_spec h) ?_
  rintro _ _ ⟨rfl, hm⟩
  replace hm := hm.symm
  subst hm
  try simp only [go_sem, ruB, h.bk.at_]
  have hB : ∀ k, Ext m (m.bump k) := fun k => Ext.bump
  obtain ⟨la, a1, a2, a3, a4⟩ := h.a
  obtain ⟨lk, b1, b2, b3, b4⟩ := h.s_
  refine gC.of (Moved_spec (l := la) (k := lk) (a2.keep (by first | exact Ext.refl _ | exact Ext.bump)) (b2.keep (by first | exact Ext.refl _ | exact Ext.bump)) (h.ga.ok a1) (h.gs.ok b1) (fun e he => ⟨(a4 e he).1.keep (by first | exact Ext.refl _ | exact Ext.bump), h.ga.pcs' a1 e he⟩) (fun e he => ⟨(b4 e he).1.keep (by first | exact Ext.refl _ | exact Ext.bump), h.gs.pcs' b1 e he⟩)) ?_
  rintro r m1 ⟨ho, hx1'⟩
  have hx1 : Ext m m1 := by first | exact hx1' | exact Ext.bump.trans hx1'
  have ho1 : Own m m1 1 (someL la lk MovP).length (intsZ (someL la lk MovP)) r := by first | exact ho | exact ho.weak Ext.bump
  clear ho hx1'
  have h1 := h.keep hx1
  try simp only [go_sem, ruB, h1.bk.at_]
  refine gC.of (own_spec (p := S) h1.s_.pls h1.gs) ?_
  rintro _ m2 ⟨lv, rfl, hP⟩
  obtain ⟨hP2, hx2⟩ := hP fp (fun x hx => by have := hf x hx; have := hx1.next; omega)
  have h2 := h1.keep hx2
  have ho2 := ho1.keep hx2
  have hlo := hP2.one
  obtain ⟨wa, wn, wc, rfl⟩ := hP2.slice
  have hw : IntKind.wrap .i64 (n + 1) = n + 1 := wrap_i64 (by omega) (by omega)
  simp only [planV]
  try simp only [go_sem, ruB, hlo, h2.bk.at_, hw]
  have hlts := h2.bk.lt
  have hge := ho2.ge
  have hsm := hf s hs
  have fin : ∀ {m'}, Upd m2 m' [s] → Bk m' s [.int .i64 S.frame, u32 S.cores, .slice wa wn wc, .int .i64 S.frame, u32 S.cores, sv, .int .i64 (n + 1)] 7 →
      Upd m m' [s] ∧ (∃ lv, StV m' s fp S S (n + 1) lv sv) ∧ ∃ la lk : List PE, la.map PE.pl = A.places ∧ lk.map PE.pl = S.places ∧ Own m m' 1 (someL la lk MovP).length (intsZ (someL la lk MovP)) r := fun {m'} hU hb => by
    have hU' : Upd m2 m' fp := ⟨hU.next, fun b hb hn => hU.same b hb fun hm => hn (by simp at hm; rw [hm]; exact hs)⟩
    exact ⟨(hx1.trans hx2).upd.trans hU (fp := []) (fun _ h => by simp at h) (fun _ h => .inl h), ⟨_, hb, hP2.upd hU', h2.s_.upd hU', h2.gs, h2.gs⟩, la, lk, a1, b1, ho2.updq hU (fun b hb hm => by simp at hm; have := hge b hb; omega)⟩
  refine fin ?_ ⟨by simp [Mem.set], by simpa [Mem.set] using hlts⟩
  exact (Upd.set (fp := [s]) (by simp)).trans (Upd.set (fp := [s]) (by simp)) (fun _ h => h) (fun _ h => .inl h)

end Go.Am


/- The stage's methods: Cut, Fresh, Turns, New; who is moved. -/
set_option linter.unusedVariables false
set_option linter.unusedSimpArgs false
namespace Go.Am
open Classical
variable {m : Mem}

theorem moved_good {l k : List PE} {a b : PlanD} (hl : l.map PE.pl = a.places) (hk : k.map PE.pl = b.places) (ra : Good a) (rb : Good b) : someL l k MovP = listL (isU0 a.places b.places) a.places b.places :=
  moved_eq hl hk ra.asc rb.asc ra.rng rb.rng fun x hx y hy => refMov_right (ra.pcr x hx) (rb.pcr y hy) (ra.cor x hx)

def cutP (p : PlanD) (u : Int) : PlanD := { p with places := dropU p.places u }

set_option maxHeartbeats 4000000 in
theorem Cut_spec {s : Nat} {fp : List Nat} {A S : PlanD} {n u : Int} {av sv : Value} (h : StV m s fp A S n av sv) (hs : s ∈ fp) (hf : ∀ x ∈ fp, x < m.next) :
    WC R F.stage_Stage_Cut [pt s, .int .i64 u] m fun r m' => Upd m m' [s] ∧ r = .bool (decide (hasU A.places u)) ∧ ∃ lv, StV m' s fp (cutP A u) S n lv sv := by
  refine WC.of R.stage_Stage_Cut rfl ?_
  simp only [RC.stage_Stage_Cut, pt, go_sem]
  refine gC.of (none_spec h) ?_
  rintro _ _ ⟨rfl, hm⟩
  replace hm := hm.symm
  subst hm
  try simp only [go_sem, ruB, h.bk.at_]
  refine gC.of (Find_spec (p := A) (u := u) ⟨av, rfl, h.a.pls⟩ h.ga.l h.ga.asc) ?_
  rintro _ m1 ⟨w, rfl, ⟨wv, rfl, hwv⟩, hx1⟩
  have h1 := h.keep hx1
  have hsl := h1.bk.lt
  have nes : (s = m1.next) = False := h1.bk.ne
  simp only [plV]
  try simp only [go_sem, ruB, aExt0, aExt1, hwv.one, nes, h1.bk.at_]
  have hx2 : Ext m1 (m1.new (.cells [.int .i64 (findP A.places u).unit, .int .i64 (findP A.places u).share, .int .i64 (findP A.places u).core, wv] (some 4))) := Ext.new
  have hb2 : Bk (m1.new (.cells [.int .i64 (findP A.places u).unit, .int .i64 (findP A.places u).share, .int .i64 (findP A.places u).core, wv] (some 4))) m1.next [.int .i64 (findP A.places u).unit, .int .i64 (findP A.places u).share, .int .i64 (findP A.places u).core, wv] 4 := Bk.new
  generalize m1.new (.cells [.int .i64 (findP A.places u).unit, .int .i64 (findP A.places u).share, .int .i64 (findP A.places u).core, wv] (some 4)) = m2 at hx2 hb2 ⊢
  have h2 := h1.keep hx2
  have hx12 := hx1.trans hx2
  refine gC.of (Drop_spec (p := A) (u := u) ⟨av, rfl, h2.a.pls⟩ h.ga.l (by have := h.ga.len; omega) h.ga.asc) ?_
  rintro _ m3 ⟨l, lv, rfl, hl, hN⟩
  have hx3 := hN.pls.ext
  have h3 := h2.keep hx3
  have hlo := hN.pls.own.sl.one
  obtain ⟨wa, wn, wc, rfl⟩ := slice_of hN.pls.own
  have hP3 : PlanE m3 fp (cutP A u) (.slice wa wn wc) := PlanE.new hN hl (fun x hx => by have := hf x hx; have := hx12.next; omega)
  simp only [planV]
  try simp only [go_sem, ruB, hlo, h3.bk.at_]
  have fin : ∀ {m'}, Upd m3 m' [s] → Bk m' s [.int .i64 A.frame, u32 A.cores, .slice wa wn wc, .int .i64 S.frame, u32 S.cores, sv, .int .i64 n] 7 → Upd m m' [s] ∧ ∃ lv, StV m' s fp (cutP A u) S n lv sv := fun {m'} hU hb => by
    have hU' : Upd m3 m' fp := ⟨hU.next, fun b hb hn => hU.same b hb fun hm => hn (by simp at hm; rw [hm]; exact hs)⟩
    exact ⟨(hx12.trans hx3).upd.trans hU (fp := []) (fun _ h => by simp at h) (fun _ h => .inl h), _, hb, hP3.upd hU', h3.s_.upd hU', h.ga.dropped u, h.gs⟩
  have k := fin (m' := m3.set s (some (.cells [.int .i64 A.frame, u32 A.cores, .slice wa wn wc, .int .i64 S.frame, u32 S.cores, sv, .int .i64 n] (some 7)))) (Upd.set (by simp)) ⟨by simp [Mem.set], by simpa [Mem.set] using h3.bk.lt⟩
  simpa using k

theorem Fresh_spec {s : Nat} {fp : List Nat} {A S : PlanD} {n : Int} {av sv : Value} (h : StV m s fp A S n av sv) : WC R F.stage_Stage_Fresh [pt s] m fun r m' => r = .bool (!decide (A = S)) ∧ Ext m m' := by
  refine WC.of R.stage_Stage_Fresh rfl ?_
  simp only [RC.stage_Stage_Fresh, pt, go_sem]
  refine gC.of (none_spec h) ?_
  rintro _ _ ⟨rfl, hm⟩
  replace hm := hm.symm
  subst hm
  try simp only [go_sem, ruB, h.bk.at_]
  refine gC.of (Same_spec (p := A) (q := S) ⟨av, rfl, h.a.pls⟩ ⟨sv, rfl, h.s_.pls⟩ h.ga.l h.gs.l) ?_
  rintro _ m1 ⟨rfl, hx1⟩
  try simp only [go_sem, ruB]
  exact hx1
theorem Turns_spec {s : Nat} {fp : List Nat} {A S : PlanD} {n : Int} {av sv : Value} (h : StV m s fp A S n av sv) : WC R F.stage_Stage_Turns [pt s] m fun r m' => r = .int .i64 n ∧ m' = m := by
  refine WC.of R.stage_Stage_Turns rfl ?_
  simp only [RC.stage_Stage_Turns, pt, go_sem]
  refine gC.of (none_spec h) ?_
  rintro _ _ ⟨rfl, hm⟩
  replace hm := hm.symm
  subst hm
  try simp only [go_sem, ruB, h.bk.at_]

def empQ (f : Int) (c : BitVec 32) : PlanD := ⟨f, c, []⟩
theorem empQ_l {f : Int} {c : BitVec 32} : PlanL (empQ f c) := ⟨by simp [empQ], fun x hx => by simp [empQ] at hx⟩
theorem empQ_light {f : Int} {c : BitVec 32} : lightP (empQ f c) = true := by simp [lightP, empQ]

set_option maxHeartbeats 4000000 in
theorem New_spec {f : Int} {c : BitVec 32} : WC R F.stage_New [.int .i64 f, u32 c] m fun r m' => Ext m m' ∧ ((¬ CheckP (empQ f c) ∧ r = .tuple #[.pointer none, .int .i64 30]) ∨
    (CheckP (empQ f c) ∧ ∃ s, r = .tuple #[pt s, .int .i64 0] ∧ m.next ≤ s ∧ ∀ fp, StV m' s fp (empQ f c) (empQ f c) 0 (.slice none 0 0) (.slice none 0 0))) := by
  refine WC.of R.stage_New rfl ?_
  have hfl : fillL [.int .i64 0, u32 0#32, .slice none 0 0] [(0, 1, .int .i64 f), (1, 1, u32 c)] = some [.int .i64 f, u32 c, .slice none 0 0] := rfl
  simp only [↓hfl, RC.stage_New, go_sem]
  try simp only [go_sem, ruB]
  have hx1 : Ext m (m.new (.cells [.int .i64 f, u32 c, .slice none 0 0] (some 3))) := Ext.new
  have hb1 : Bk (m.new (.cells [.int .i64 f, u32 c, .slice none 0 0] (some 3))) m.next [.int .i64 f, u32 c, .slice none 0 0] 3 := Bk.new
  generalize m.new (.cells [.int .i64 f, u32 c, .slice none 0 0] (some 3)) = m1 at hx1 hb1 ⊢
  have hnil : PlsV m1 (empQ f c).places (.slice none 0 0) := ⟨[], .nil rfl rfl, trivial, fun i hi => by simp [empQ] at hi⟩
  try simp only [go_sem, ruB, hb1.at_]
  refine gC.of (Check_spec (p := empQ f c) (v := .agg #[.int .i64 f, u32 c, .slice none 0 0]) ⟨.slice none 0 0, rfl, hnil⟩ empQ_l) ?_
  rintro _ m2 ⟨rfl, hx2⟩
  have hb2 := hb1.keep hx2
  have hfl2 : fillL [.int .i64 0, u32 0#32, .slice none 0 0, .int .i64 0, u32 0#32, .slice none 0 0, .int .i64 0] [(0, 3, .agg #[.int .i64 f, u32 c, .slice none 0 0]), (3, 3, .agg #[.int .i64 f, u32 c, .slice none 0 0])] = some [.int .i64 f, u32 c, .slice none 0 0, .int .i64 f, u32 c, .slice none 0 0, .int .i64 0] := rfl
  by_cases hc : CheckP (empQ f c)
  · have e1 : chk (empQ f c) = .int .i64 0 := (chk_yes hc).symm
    have e2 : (((0 : Int)) != 0) = false := rfl
    try simp only [go_sem, ruB, e1, e2, hb2.at_, ↓hfl2]
    have hx3 : Ext m2 (m2.new (.cells [.int .i64 f, u32 c, .slice none 0 0, .int .i64 f, u32 c, .slice none 0 0, .int .i64 0] (some 7))) := Ext.new
    have hb3 : Bk (m2.new (.cells [.int .i64 f, u32 c, .slice none 0 0, .int .i64 f, u32 c, .slice none 0 0, .int .i64 0] (some 7))) m2.next [.int .i64 f, u32 c, .slice none 0 0, .int .i64 f, u32 c, .slice none 0 0, .int .i64 0] 7 := Bk.new
    generalize m2.new (.cells [.int .i64 f, u32 c, .slice none 0 0, .int .i64 f, u32 c, .slice none 0 0, .int .i64 0] (some 7)) = m3 at hx3 hb3 ⊢
    have hE : ∀ fp, PlanE m3 fp (empQ f c) (.slice none 0 0) := fun fp => ⟨[], rfl, ⟨.nil rfl rfl, trivial⟩, by simp [vb], by simp⟩
    have hn := (hx1.trans hx2).next
    have hg := Good.of hc empQ_light
    exact ⟨(hx1.trans hx2).trans hx3, .inr ⟨hc, m2.next, rfl, hn, fun fp => ⟨hb3, hE fp, hE fp, hg, hg⟩⟩⟩
  · have e1 : chk (empQ f c) = .int .i64 30 := (chk_no hc).symm
    have e2 : (((30 : Int)) != 0) = true := rfl
    try simp only [go_sem, ruB, e1, e2]
    exact ⟨hx1.trans hx2, .inl hc⟩
end Go.Am


/- The stage's reference: Set, Cut, Turn. -/
set_option linter.unusedVariables false
set_option linter.unusedSimpArgs false
namespace Go.Am
open Classical
variable {m : Mem}

theorem Upd.sameF {a b c : Mem} {fp : List Nat} (h : Upd a b fp) (k : Upd b c fp) : Upd a c fp := h.trans k (fun _ h => h) (fun _ h => .inl h)
def stgV (A : PlanD) (av : Value) (S : PlanD) (sv : Value) (n : Int) : List Value := [.int .i64 A.frame, u32 A.cores, av, .int .i64 S.frame, u32 S.cores, sv, .int .i64 n]

set_option maxHeartbeats 4000000 in
theorem refSet_spec {A S p : PlanD} {av sv pv : Value} {n : Int} (oa : av.oneCell' = true) (os : sv.oneCell' = true) (hp : PlsV m p.places pv) (hpl : PlanL p) :
    WC R F.ref26_Set [.agg (stgV A av S sv n).toArray, .agg (planV p pv).toArray] m fun r m' => Ext m m' ∧
      r = if RightP p ∧ p.frame = A.frame then .tuple #[.agg (stgV A av p pv n).toArray, .bool true] else .tuple #[.agg (stgV A av S sv n).toArray, .bool false] := by
  refine WC.of R.ref26_Set rfl ?_
  have op := hp.one
  simp only [RC.ref26_Set, stgV, planV, go_sem, oa, os, op]
  have hx1 : Ext m (m.new (.cells [.int .i64 A.frame, u32 A.cores, av, .int .i64 S.frame, u32 S.cores, sv, .int .i64 n] (some 7))) := Ext.new
  have hb1 : Bk (m.new (.cells [.int .i64 A.frame, u32 A.cores, av, .int .i64 S.frame, u32 S.cores, sv, .int .i64 n] (some 7))) m.next [.int .i64 A.frame, u32 A.cores, av, .int .i64 S.frame, u32 S.cores, sv, .int .i64 n] 7 := Bk.new
  generalize m.new (.cells [.int .i64 A.frame, u32 A.cores, av, .int .i64 S.frame, u32 S.cores, sv, .int .i64 n] (some 7)) = m1 at hx1 hb1 ⊢
  have hx2 : Ext m1 (m1.new (.cells [.int .i64 p.frame, u32 p.cores, pv] (some 3))) := Ext.new
  have hb2 : Bk (m1.new (.cells [.int .i64 p.frame, u32 p.cores, pv] (some 3))) m1.next [.int .i64 p.frame, u32 p.cores, pv] 3 := Bk.new
  generalize m1.new (.cells [.int .i64 p.frame, u32 p.cores, pv] (some 3)) = m2 at hx2 hb2 ⊢
  have hn2 := hb2.ne
  have hn1 := (hb1.keep hx2).ne
  try simp only [go_sem, ruB, hb2.at_, hn2]
  have hx3 : Ext m2 (m2.new (.cells [.int .i64 0, u32 0#32, .slice none 0 0, .int .i64 0, u32 0#32, .slice none 0 0, .int .i64 0] (some 7))) := Ext.new
  have hb3 : Bk (m2.new (.cells [.int .i64 0, u32 0#32, .slice none 0 0, .int .i64 0, u32 0#32, .slice none 0 0, .int .i64 0] (some 7))) m2.next [.int .i64 0, u32 0#32, .slice none 0 0, .int .i64 0, u32 0#32, .slice none 0 0, .int .i64 0] 7 := Bk.new
  generalize m2.new (.cells [.int .i64 0, u32 0#32, .slice none 0 0, .int .i64 0, u32 0#32, .slice none 0 0, .int .i64 0] (some 7)) = m3 at hx3 hb3 ⊢
  have hb1 := (hb1.keep hx2).keep hx3
  have hb2 := hb2.keep hx3
  have hX := (hx1.trans hx2).trans hx3
  refine gC.of (refRight_spec (p := p) ⟨pv, rfl, hp.keep hX⟩ hpl.len hpl.pcs) ?_
  rintro _ m4 ⟨rfl, hx4⟩
  have hb1 := hb1.keep hx4
  have hb2 := hb2.keep hx4
  have hb3 := hb3.keep hx4
  have hX4 := hX.trans hx4
  have l1 := hx1.next
  have l2 := hx2.next
  by_cases h1 : RightP p
  · by_cases h2 : p.frame = A.frame
    · have e2 : (p.frame != A.frame) = false := by rw [bne_eq_false_iff_eq]; exact h2
      have ne : (m2.next = m.next) = False := eq_false fun e => (of_eq_false hn1) e.symm
      rw [if_pos ⟨h1, h2⟩]
      try simp only [go_sem, ruB, decide_eq_true h1, e2, hb1.at_, hb2.at_, hb3.at_, op, oa, ne]
      exact (hX4.set (Nat.le_refl _)).set (Nat.le_trans l1 l2)
    · have e2 : (p.frame != A.frame) = true := by rw [bne_iff_ne]; exact h2
      rw [if_neg (fun h => h2 h.2)]
      try simp only [go_sem, ruB, decide_eq_true h1, e2, hb1.at_, hb2.at_, hb3.at_, oa, os]
      exact hX4.set (Nat.le_trans l1 l2)
  · rw [if_neg (fun h => h1 h.1)]
    try simp only [go_sem, ruB, decide_eq_false h1, hb1.at_, hb3.at_, oa, os]
    exact hX4.set (Nat.le_trans l1 l2)

theorem PlanE.rowE {m : Mem} {fp : List Nat} {p : PlanD} {v : Value} (h : PlanE m fp p v) : ∃ l : List PE, l.map PE.pl = p.places ∧ RowE m l v ∧ ∀ e ∈ l, PcV m e.pl.pieces e.pv ∧ ∀ b ∈ vb e.pv, b ∉ fp := by
  obtain ⟨l, a, b, c, d⟩ := h
  exact ⟨l, a, ⟨b.sl, b.lt⟩, d⟩

set_option maxHeartbeats 4000000 in
theorem refCut_spec {A S : PlanD} {av sv : Value} {n u : Int} {fp : List Nat} (ha : PlanE m fp A av) (os : sv.oneCell' = true) (ga : Good A) (hf : ∀ x ∈ fp, x < m.next) :
    WC R F.ref26_Cut [.agg (stgV A av S sv n).toArray, .int .i64 u] m fun r m' => Ext m m' ∧
      ∃ lv, r = .tuple #[.agg (stgV (cutP A u) lv S sv n).toArray, .bool (decide (hasU A.places u))] ∧ PlanE m' fp (cutP A u) lv := by
  refine WC.of R.ref26_Cut rfl ?_
  have oa := ha.one
  simp only [RC.ref26_Cut, stgV, go_sem, oa, os]
  have hx1 : Ext m (m.new (.cells [.int .i64 A.frame, u32 A.cores, av, .int .i64 S.frame, u32 S.cores, sv, .int .i64 n] (some 7))) := Ext.new
  have hb1 : Bk (m.new (.cells [.int .i64 A.frame, u32 A.cores, av, .int .i64 S.frame, u32 S.cores, sv, .int .i64 n] (some 7))) m.next [.int .i64 A.frame, u32 A.cores, av, .int .i64 S.frame, u32 S.cores, sv, .int .i64 n] 7 := Bk.new
  generalize m.new (.cells [.int .i64 A.frame, u32 A.cores, av, .int .i64 S.frame, u32 S.cores, sv, .int .i64 n] (some 7)) = m1 at hx1 hb1 ⊢
  have hn1 := hb1.ne
  have la := hb1.lt
  try simp only [go_sem, ruB, hb1.at_, hn1]
  have hx2 : Ext m1 (m1.new (.cells [.int .i64 0, u32 0#32, .slice none 0 0, .int .i64 0, u32 0#32, .slice none 0 0, .int .i64 0] (some 7))) := Ext.new
  have hb2 : Bk (m1.new (.cells [.int .i64 0, u32 0#32, .slice none 0 0, .int .i64 0, u32 0#32, .slice none 0 0, .int .i64 0] (some 7))) m1.next [.int .i64 0, u32 0#32, .slice none 0 0, .int .i64 0, u32 0#32, .slice none 0 0, .int .i64 0] 7 := Bk.new
  generalize m1.new (.cells [.int .i64 0, u32 0#32, .slice none 0 0, .int .i64 0, u32 0#32, .slice none 0 0, .int .i64 0] (some 7)) = m2 at hx2 hb2 ⊢
  have lb := hb2.lt
  have hb1 := hb1.keep hx2
  have hX := hx1.trans hx2
  have ha2 := ha.keep hX
  refine gC.of (refFind_spec (p := A) (u := u) ⟨av, rfl, ha2.pls⟩ ga.l ga.asc) ?_
  rintro _ m3 ⟨w, rfl, ⟨wv, rfl, hwv⟩, hx3⟩
  have hb1 := hb1.keep hx3
  have hb2 := hb2.keep hx3
  have hn3 := hb1.ne
  simp only [plV]
  try simp only [go_sem, ruB, aExt0, aExt1, hwv.one, hb1.at_, hn3]
  have hx4 : Ext m3 (m3.new (.cells [.int .i64 (findP A.places u).unit, .int .i64 (findP A.places u).share, .int .i64 (findP A.places u).core, wv] (some 4))) := Ext.new
  have hb4 : Bk (m3.new (.cells [.int .i64 (findP A.places u).unit, .int .i64 (findP A.places u).share, .int .i64 (findP A.places u).core, wv] (some 4))) m3.next [.int .i64 (findP A.places u).unit, .int .i64 (findP A.places u).share, .int .i64 (findP A.places u).core, wv] 4 := Bk.new
  generalize m3.new (.cells [.int .i64 (findP A.places u).unit, .int .i64 (findP A.places u).share, .int .i64 (findP A.places u).core, wv] (some 4)) = m4 at hx4 hb4 ⊢
  have hX4 := (hX.trans hx3).trans hx4
  obtain ⟨l, l1, l2, l3⟩ := ha.rowE
  have hll : l.length < 1000000 := by have := ga.len; rw [← List.length_map (f := PE.pl), l1]; omega
  refine gC.of (refDrop_spec (u := u) (l2.keep hX4) hll) ?_
  rintro _ m5 ⟨lv, rfl, ho, hx5⟩
  have hX5 := hX4.trans hx5
  have hb1 := (hb1.keep hx4).keep hx5
  have hb2 := (hb2.keep hx4).keep hx5
  obtain ⟨wa, wn, wc, rfl⟩ := slice_of ho
  have hlo := ho.sl.one
  have ne : (m1.next = m.next) = False := eq_false fun e => (of_eq_false hn1) e.symm
  have hge := ho.ge
  have hle4 := hX4.next
  have hle2 := hx3.next
  have hle3 := hx4.next
  have hP5 : PlanE m5 (m.next :: m1.next :: fp) (cutP A u) (.slice wa wn wc) := by
    refine ⟨dropE l u, ?_, ⟨ho.sl, ho.lt⟩, fun b hb hm => ?_, fun e he => ?_⟩
    · rw [dropE_map, l1]; rfl
    · have := hge b hb
      simp only [List.mem_cons] at hm
      rcases hm with h | h | h
      · omega
      · omega
      · have := hf b h; omega
    · have hm : e ∈ l := (List.mem_filter.1 he).1
      obtain ⟨q1, q2⟩ := l3 e hm
      refine ⟨q1.keep hX5, fun b hb hm => ?_⟩
      have := (SlLt.vb_iff.1 q1.2) b hb
      simp only [List.mem_cons] at hm
      rcases hm with h | h | h
      · omega
      · omega
      · exact q2 b hb h
  have fin : ∀ {m'}, Upd m5 m' [m.next, m1.next] → Ext m m' ∧ PlanE m' fp (cutP A u) (.slice wa wn wc) := fun {m'} hU => by
    have hU' : Upd m5 m' (m.next :: m1.next :: fp) := ⟨hU.next, fun b hb hn => hU.same b hb fun hm => hn (by simp at hm; rcases hm with h | h <;> simp [h])⟩
    refine ⟨hU.ext_of hX5 (by simp; omega), ?_⟩
    obtain ⟨l', a, b, c, d⟩ := hP5.upd hU'
    exact ⟨l', a, b, fun x hx hm => c x hx (by simp [hm]), fun e he => ⟨(d e he).1, fun x hx hm => (d e he).2 x hx (by simp [hm])⟩⟩
  try simp only [go_sem, ruB, hlo, hb1.at_, hb2.at_, ne, os]
  have k := fin (m' := (m5.set m.next (some (.cells [.int .i64 A.frame, u32 A.cores, .slice wa wn wc, .int .i64 S.frame, u32 S.cores, sv, .int .i64 n] (some 7)))).set m1.next (some (.cells [.int .i64 A.frame, u32 A.cores, .slice wa wn wc, .int .i64 S.frame, u32 S.cores, sv, .int .i64 n] (some 7))))
    ((Upd.set (fp := [m.next, m1.next]) (by simp)).trans (Upd.set (fp := [m.next, m1.next]) (by simp)) (fun _ h => h) (fun _ h => .inl h))
  exact ⟨k.1, _, rfl, k.2⟩

set_option maxHeartbeats 4000000 in
theorem refTurn_spec {A S : PlanD} {av sv : Value} {n : Int} {fp : List Nat} (ha : PlanE m fp A av) (hs : PlanE m fp S sv) (ga : Good A) (gs : Good S) (hn : 0 ≤ n ∧ n < 1000000) :
    WC R F.ref26_Turn [.agg (stgV A av S sv n).toArray] m fun r m' => Ext m m' ∧
      ∃ lv, r = .tuple #[.agg (stgV S sv S sv (n + 1)).toArray, lv] ∧ Own m m' 1 (listL (isU0 A.places S.places) A.places S.places).length (intsZ (listL (isU0 A.places S.places) A.places S.places)) lv := by
  refine WC.of R.ref26_Turn rfl ?_
  have oa := ha.one
  have os := hs.one
  simp only [RC.ref26_Turn, stgV, go_sem, oa, os]
  have hx1 : Ext m (m.new (.cells [.int .i64 A.frame, u32 A.cores, av, .int .i64 S.frame, u32 S.cores, sv, .int .i64 n] (some 7))) := Ext.new
  have hb1 : Bk (m.new (.cells [.int .i64 A.frame, u32 A.cores, av, .int .i64 S.frame, u32 S.cores, sv, .int .i64 n] (some 7))) m.next [.int .i64 A.frame, u32 A.cores, av, .int .i64 S.frame, u32 S.cores, sv, .int .i64 n] 7 := Bk.new
  generalize m.new (.cells [.int .i64 A.frame, u32 A.cores, av, .int .i64 S.frame, u32 S.cores, sv, .int .i64 n] (some 7)) = m1 at hx1 hb1 ⊢
  have hn1 := hb1.ne
  have la := hb1.lt
  try simp only [go_sem, ruB, hb1.at_, hn1]
  have hx2 : Ext m1 (m1.new (.cells [.int .i64 0, u32 0#32, .slice none 0 0, .int .i64 0, u32 0#32, .slice none 0 0, .int .i64 0] (some 7))) := Ext.new
  have hb2 : Bk (m1.new (.cells [.int .i64 0, u32 0#32, .slice none 0 0, .int .i64 0, u32 0#32, .slice none 0 0, .int .i64 0] (some 7))) m1.next [.int .i64 0, u32 0#32, .slice none 0 0, .int .i64 0, u32 0#32, .slice none 0 0, .int .i64 0] 7 := Bk.new
  generalize m1.new (.cells [.int .i64 0, u32 0#32, .slice none 0 0, .int .i64 0, u32 0#32, .slice none 0 0, .int .i64 0] (some 7)) = m2 at hx2 hb2 ⊢
  have lb := hb2.lt
  have hb1 := hb1.keep hx2
  have hX := hx1.trans hx2
  refine gC.of (List0_spec (p := A) (q := S) ⟨av, rfl, (ha.keep hX).pls⟩ ⟨sv, rfl, (hs.keep hX).pls⟩ ga.l gs.l ga.asc gs.asc) ?_
  rintro lv m3 ⟨ho, hx3⟩
  have hb1 := hb1.keep hx3
  have hb2 := hb2.keep hx3
  have hw : IntKind.wrap .i64 (n + 1) = n + 1 := wrap_i64 (by omega) (by omega)
  have ne : (m1.next = m.next) = False := eq_false fun e => (of_eq_false hn1) e.symm
  have hge := ho.ge
  have ho' := ho.weak hX
  have hX3 := hX.trans hx3
  have fin : ∀ {m'}, Upd m3 m' [m.next, m1.next] → Ext m m' ∧ Own m m' 1 (listL (isU0 A.places S.places) A.places S.places).length (intsZ (listL (isU0 A.places S.places) A.places S.places)) lv := fun {m'} hU =>
    ⟨hU.ext_of hX3 (by simp; omega), ho'.updq hU (fun b hb hm => by have := hge b hb; simp at hm; omega)⟩
  try simp only [go_sem, ruB, hb1.at_, hb2.at_, ne, oa, os, hw]
  have s3 : ∀ {o1 o2 o3 : Option AObj}, Upd m3 (((m3.set m.next o1).set m.next o2).set m1.next o3) [m.next, m1.next] := by
    intro o1 o2 o3
    exact ((Upd.set (fp := [m.next, m1.next]) (by simp)).sameF (Upd.set (fp := [m.next, m1.next]) (by simp))).sameF (Upd.set (fp := [m.next, m1.next]) (by simp))
  exact ⟨(fin s3).1, lv, rfl, (fin s3).2⟩
end Go.Am


/- StagePlays: one call. -/
set_option linter.unusedVariables false
set_option linter.unusedSimpArgs false
namespace Go.Am
open Classical
variable {m : Mem}

theorem gp_mono {R : Nat → Option FEnt} {a : RCode} {e : Env} {Q Q' : Ex → Env → Mem → Prop} (h1 : gp R a e m Q') (h2 : ∀ x e' m', Q' x e' m' → Q x e' m') : gp R a e m Q := wp.mono (c := a) h2 h1
theorem ok_specS {f : Nat} (h : R f = some (.ext X.ok)) {m : Mem} : WC R f [] m fun v m' => v = .bool true ∧ m' = m := WC.ext h rfl ⟨rfl, rfl⟩
theorem PlanE.old {m0 m : Mem} {fp : List Nat} {p : PlanD} {v : Value} (h : PlsV m0 p.places v) (hx : Ext m0 m) (hf : ∀ x ∈ fp, m0.next ≤ x) : PlanE m fp p v := by
  obtain ⟨l, a, b, c⟩ := rowE_of h
  have k : PlanE m0 fp p v := ⟨l, a, ⟨b.sl, b.lt⟩, fun x hx hm => by have := (SlLt.vb_iff.1 b.lt) x hx; have := hf x hm; omega, fun e he => ⟨c e he, fun x hx hm => by have := (SlLt.vb_iff.1 (c e he).2) x hx; have := hf x hm; omega⟩⟩
  exact k.keep hx

structure PI (m0 m : Mem) (s bw : Nat) (A S : PlanD) (t : Nat) (wa ws : Value) : Prop where
  st : ∃ av sv, StV m s [s, bw] A S ((t : Nat) : Int) av sv
  bk : Bk m bw (stgV A wa S ws ((t : Nat) : Int)) 7
  pa : PlanE m [s, bw] A wa
  ps : PlanE m [s, bw] S ws
  ge : m0.next ≤ s ∧ m0.next ≤ bw
  ne : s ≠ bw
  ext : Ext m0 m
theorem PI.keep {m0 m m' : Mem} {s bw : Nat} {A S : PlanD} {t : Nat} {wa ws : Value} (h : PI m0 m s bw A S t wa ws) (hx : Ext m m') : PI m0 m' s bw A S t wa ws :=
  ⟨let ⟨av, sv, k⟩ := h.st; ⟨av, sv, k.keep hx⟩, h.bk.keep hx, h.pa.keep hx, h.ps.keep hx, h.ge, h.ne, h.ext.trans hx⟩

def sqA : RCode → RCode | .seq a _ => a | c => c
def sqB : RCode → RCode | .seq _ b => b | c => c
def bkC : RCode → RCode | .block _ c _ => c | c => c
def cnA : RCode → RCode | .cond _ a _ => a | c => c
def cnB : RCode → RCode | .cond _ _ b => b | c => c
def sCond : RCode := sqA RB.law26_StagePlays_1
def sBlk : RCode := bkC (sqA (sqB RB.law26_StagePlays_1))
def sBox : RCode := sqA sBlk
def sLight : RCode := sqA (sqB sBlk)
def sSw : RCode := sqA (sqB (sqB sBlk))
def sRest : RCode := sqB (sqB (sqB sBlk))
def sInc : RCode := sqB (sqB RB.law26_StagePlays_1)
theorem splays_eq : RB.law26_StagePlays_1 = .seq sCond (.seq (.block 1 (.seq sBox (.seq sLight (.seq sSw sRest))) [2, 7, 10, 11]) sInc) := rfl
def sS0 : RCode := sqA sSw
def sFront : RCode := sqA (bkC (sqB sSw))
def sSet : RCode := cnA (sqB (bkC (sqB sSw)))
def sOth : RCode := cnB (sqB (bkC (sqB sSw)))
theorem ssw_eq : sSw = .seq sS0 (.block 2 (.seq sFront (.cond (.t 70) sSet sOth)) [2, 7, 10, 11]) := rfl

def sEnv (lv : Value) (s bw i : Nat) : Env := [(2, lv), (7, pt s), (10, pt bw), (11, .int .i64 ((i : Nat) : Int))]

set_option maxHeartbeats 4000000 in
theorem Stage_rest {m0 : Mem} {s bw i t : Nat} {A S : PlanD} {wa ws lv : Value} (h : PI m0 m s bw A S t wa ws) :
    gp R sRest (sEnv lv s bw i) m fun x e' m' => x = .normal ∧ e' = sEnv lv s bw i ++ [(156, .bool false)] ∧ PI m0 m' s bw A S t wa ws := by
  simp only [sRest, sBlk, sqA, sqB, bkC, RB.law26_StagePlays_1, sEnv, List.cons_append, List.nil_append, pt]
  obtain ⟨av, sv, hS⟩ := h.st
  have hb := h.bk
  simp only [stgV] at hb
  have oa := h.pa.one
  have os := h.ps.one
  have dA : decide (A = A) = true := by simp
  have dS : decide (S = S) = true := by simp
  try simp only [go_sem, ruB, hb.at_]
  refine gC.of (Active_spec hS) ?_
  rintro _ m1 ⟨u1, rfl, hP⟩
  obtain ⟨hP1, hx1⟩ := hP [] (by simp)
  have k1 : m1.blk bw = m.blk bw := hx1.same bw hb.lt
  have hb1 := hb.keep hx1
  try simp only [go_sem, ruB, watchOk_cons, watchOk_nil, blkOf_ptr, k1, hb.at_]
  refine gC.of (refSame_spec (p := A) (q := A) ⟨u1, rfl, hP1.pls⟩ ⟨wa, rfl, (h.pa.keep hx1).pls⟩ hS.ga.l hS.ga.l) ?_
  rintro _ m2 ⟨rfl, hx2⟩
  have hS2 := (hS.keep hx1).keep hx2
  have hb2 := hb1.keep hx2
  try simp only [go_sem, ruB, dA, hb2.at_]
  refine gC.of (Staged_spec hS2) ?_
  rintro _ m3 ⟨u2, rfl, hQ⟩
  obtain ⟨hQ1, hx3⟩ := hQ [] (by simp)
  have k3 : m3.blk bw = m2.blk bw := hx3.same bw hb2.lt
  have hb3 := hb2.keep hx3
  try simp only [go_sem, ruB, watchOk_cons, watchOk_nil, blkOf_ptr, k3, hb2.at_]
  refine gC.of (refSame_spec (p := S) (q := S) ⟨u2, rfl, hQ1.pls⟩ ⟨ws, rfl, (((h.ps.keep hx1).keep hx2).keep hx3).pls⟩ hS.gs.l hS.gs.l) ?_
  rintro _ m4 ⟨rfl, hx4⟩
  have hS4 := (hS2.keep hx3).keep hx4
  have hb4 := hb3.keep hx4
  have hX4 := ((hx1.trans hx2).trans hx3).trans hx4
  try simp only [go_sem, ruB, dS, hb4.at_]
  refine gC.of (Fresh_spec hS4) ?_
  rintro _ m5 ⟨rfl, hx5⟩
  have k5 : m5.blk bw = m4.blk bw := hx5.same bw hb4.lt
  have hb5 := hb4.keep hx5
  have hX5 := hX4.trans hx5
  try simp only [go_sem, ruB, watchOk_cons, watchOk_nil, blkOf_ptr, k5, hb4.at_]
  refine gC.of (refSame_spec (p := A) (q := S) ⟨wa, rfl, (h.pa.keep hX5).pls⟩ ⟨ws, rfl, (h.ps.keep hX5).pls⟩ hS.ga.l hS.gs.l) ?_
  rintro _ m6 ⟨rfl, hx6⟩
  have hS6 := (hS4.keep hx5).keep hx6
  have hb6 := hb5.keep hx6
  have dF : ((!decide (A = S)) == decide (A = S)) = false := by cases decide (A = S) <;> rfl
  try simp only [go_sem, ruB, dF, hb6.at_]
  refine gC.of (Turns_spec hS6) ?_
  rintro _ _ ⟨rfl, hm⟩
  replace hm := hm.symm
  subst hm
  have dT : (((t : Nat) : Int) != ((t : Nat) : Int)) = false := by rw [bne_eq_false_iff_eq]
  try simp only [go_sem, ruB, watchOk_cons, watchOk_nil, blkOf_ptr, hb6.at_, dT]
  exact h.keep (hX5.trans hx6)

def acV (k u : Int) (p : PlanD) (pv : Value) : List Value := [.int .i64 k, .int .i64 p.frame, u32 p.cores, pv, .int .i64 u]

set_option maxHeartbeats 4000000 in
theorem Stage_set {m0 : Mem} {s bw i t d : Nat} {A S p : PlanD} {wa ws lv pv : Value} {k u : Int} (h : PI m0 m s bw A S t wa ws) (ht : t < 1000) (hd : Bk m d (acV k u p pv) 5) (hds : d ≠ s ∧ d ≠ bw) (hp : PlsV m0 p.places pv) (hli : lightP p = true) (hpl : PlanL p) :
    gp R sSet (sEnv lv s bw i ++ [(12, pt d), (69, .int .i64 k), (70, .bool true)]) m fun x e' m' => x = .normal ∧ ∃ (A' S' : PlanD) (t' : Nat) (wa' ws' : Value) (rs : Env), e' = sEnv lv s bw i ++ rs ∧ PI m0 m' s bw A' S' t' wa' ws' ∧ t' ≤ t + 1 := by
  simp only [sSet, sSw, sBlk, sqA, sqB, bkC, cnA, RB.law26_StagePlays_1, sEnv, List.cons_append, List.nil_append, pt]
  obtain ⟨av, sv, hS⟩ := h.st
  have hb := h.bk
  have hbl := hb.lt
  have hsl := hS.bk.lt
  simp only [stgV] at hb
  simp only [acV] at hd
  have oa := h.pa.one
  have os := h.ps.one
  have op := hp.one
  try simp only [go_sem, ruB, hb.at_, hd.at_, List.drop_succ_cons, List.drop_zero, List.take_succ_cons, List.take_zero]
  refine gC.of (refSet_spec (A := A) (S := S) (p := p) (n := ((t : Nat) : Int)) oa os (hp.keep h.ext) hpl) ?_
  rintro _ m1 ⟨hx1, rfl⟩
  have h1 := h.keep hx1
  have hd1 := hd.keep hx1
  have hb1 := hb.keep hx1
  by_cases hok : RightP p ∧ p.frame = A.frame
  · rw [if_pos hok]
    simp only [stgV]
    have nd : (d = bw) = False := eq_false hds.2
    have hbn := hb1.ne
    have hdn := hd1.ne
    have nb2 : (m1.next = bw) = False := eq_false fun e => (of_eq_false hbn) e.symm
    try simp only [go_sem, ruB, aExt0, aExt1, oa, op, nd, hbn, hdn, nb2, hb1.at_, hd1.at_, List.drop_succ_cons, List.drop_zero, List.take_succ_cons, List.take_zero]
    have hx2 : Ext m1 (m1.new (.cells [.int .i64 A.frame, u32 A.cores, wa, .int .i64 p.frame, u32 p.cores, pv, .int .i64 ((t : Nat) : Int)] (some 7))) := Ext.new
    have hb13 : Bk (m1.new (.cells [.int .i64 A.frame, u32 A.cores, wa, .int .i64 p.frame, u32 p.cores, pv, .int .i64 ((t : Nat) : Int)] (some 7))) m1.next [.int .i64 A.frame, u32 A.cores, wa, .int .i64 p.frame, u32 p.cores, pv, .int .i64 ((t : Nat) : Int)] 7 := Bk.new
    generalize m1.new (.cells [.int .i64 A.frame, u32 A.cores, wa, .int .i64 p.frame, u32 p.cores, pv, .int .i64 ((t : Nat) : Int)] (some 7)) = m2 at hx2 hb13 ⊢
    have hb2 := hb1.keep hx2
    have hd2 := hd1.keep hx2
    have hU3 : Upd m2 (m2.set bw (some (.cells [.int .i64 A.frame, u32 A.cores, wa, .int .i64 p.frame, u32 p.cores, pv, .int .i64 ((t : Nat) : Int)] (some 7)))) [bw] := Upd.set (by simp)
    have hb3 : Bk (m2.set bw (some (.cells [.int .i64 A.frame, u32 A.cores, wa, .int .i64 p.frame, u32 p.cores, pv, .int .i64 ((t : Nat) : Int)] (some 7)))) bw (stgV A wa p pv ((t : Nat) : Int)) 7 := ⟨by simp [Mem.set, stgV], hb2.lt⟩
    generalize m2.set bw (some (.cells [.int .i64 A.frame, u32 A.cores, wa, .int .i64 p.frame, u32 p.cores, pv, .int .i64 ((t : Nat) : Int)] (some 7))) = m3 at hU3 hb3 ⊢
    have hX2 := h.ext.trans (hx1.trans hx2)
    have hX3 : Ext m0 m3 := hU3.ext_of hX2 (by simpa using h.ge.2)
    have hS3 := ((hS.keep hx1).keep hx2).upd hU3 (by simpa using h.ne) (by simp)
    have hU3' : Upd m2 m3 [s, bw] := ⟨hU3.next, fun b hb hn => hU3.same b hb fun hm => hn (by simp at hm; simp [hm])⟩
    have hpa3 := ((h.pa.keep hx1).keep hx2).upd hU3'
    refine gC.of (Set_spec (p := p) hS3 (by simp) (by have := hS3.bk.lt; have := hb3.lt; simp; omega) (hp.keep hX3) hli hpl) ?_
    rintro r m4 ⟨hU4, ⟨-, -, rfl, lv', hS4⟩ | ⟨hn, -⟩⟩
    · have hU4' : Upd m3 m4 [s, bw] := ⟨hU4.next, fun b hb hn => hU4.same b hb fun hm => hn (by simp at hm; simp [hm])⟩
      have hX4 : Ext m0 m4 := hU4.ext_of hX3 (by simpa using h.ge.1)
      try simp only [go_sem, ruB]
      exact ⟨A, p, t, wa, pv, _, rfl, ⟨⟨_, _, hS4⟩, hb3.upd hU4 (by simpa using fun e => h.ne e.symm), hpa3.upd hU4', PlanE.old hp hX4 (by have := h.ge; simp; omega), h.ge, h.ne, hX4⟩, by omega⟩
    · exact absurd ⟨check_iff.2 hok.1, hok.2⟩ hn
  · rw [if_neg hok]
    simp only [stgV]
    have nd : (d = bw) = False := eq_false hds.2
    have hbn := hb1.ne
    have hdn := hd1.ne
    have nb2 : (m1.next = bw) = False := eq_false fun e => (of_eq_false hbn) e.symm
    try simp only [go_sem, ruB, aExt0, aExt1, oa, os, nd, hbn, hdn, nb2, hb1.at_, hd1.at_, List.drop_succ_cons, List.drop_zero, List.take_succ_cons, List.take_zero]
    have hx2 : Ext m1 (m1.new (.cells [.int .i64 A.frame, u32 A.cores, wa, .int .i64 S.frame, u32 S.cores, ws, .int .i64 ((t : Nat) : Int)] (some 7))) := Ext.new
    have hb13 : Bk (m1.new (.cells [.int .i64 A.frame, u32 A.cores, wa, .int .i64 S.frame, u32 S.cores, ws, .int .i64 ((t : Nat) : Int)] (some 7))) m1.next [.int .i64 A.frame, u32 A.cores, wa, .int .i64 S.frame, u32 S.cores, ws, .int .i64 ((t : Nat) : Int)] 7 := Bk.new
    generalize m1.new (.cells [.int .i64 A.frame, u32 A.cores, wa, .int .i64 S.frame, u32 S.cores, ws, .int .i64 ((t : Nat) : Int)] (some 7)) = m2 at hx2 hb13 ⊢
    have hb2 := hb1.keep hx2
    have hd2 := hd1.keep hx2
    have hU3 : Upd m2 (m2.set bw (some (.cells [.int .i64 A.frame, u32 A.cores, wa, .int .i64 S.frame, u32 S.cores, ws, .int .i64 ((t : Nat) : Int)] (some 7)))) [bw] := Upd.set (by simp)
    have hb3 : Bk (m2.set bw (some (.cells [.int .i64 A.frame, u32 A.cores, wa, .int .i64 S.frame, u32 S.cores, ws, .int .i64 ((t : Nat) : Int)] (some 7)))) bw (stgV A wa S ws ((t : Nat) : Int)) 7 := ⟨by simp [Mem.set, stgV], hb2.lt⟩
    generalize m2.set bw (some (.cells [.int .i64 A.frame, u32 A.cores, wa, .int .i64 S.frame, u32 S.cores, ws, .int .i64 ((t : Nat) : Int)] (some 7))) = m3 at hU3 hb3 ⊢
    have hX2 := h.ext.trans (hx1.trans hx2)
    have hX3 : Ext m0 m3 := hU3.ext_of hX2 (by simpa using h.ge.2)
    have hS3 := ((hS.keep hx1).keep hx2).upd hU3 (by simpa using h.ne) (by simp)
    have hU3' : Upd m2 m3 [s, bw] := ⟨hU3.next, fun b hb hn => hU3.same b hb fun hm => hn (by simp at hm; simp [hm])⟩
    have hpa3 := ((h.pa.keep hx1).keep hx2).upd hU3'
    have hps3 := ((h.ps.keep hx1).keep hx2).upd hU3'
    refine gC.of (Set_spec (p := p) hS3 (by simp) (by have := hS3.bk.lt; have := hb3.lt; simp; omega) (hp.keep hX3) hli hpl) ?_
    rintro r m4 ⟨hU4, ⟨hc, hf, -⟩ | ⟨-, rfl, hS4⟩⟩
    · exact absurd ⟨check_iff.1 hc, hf⟩ hok
    · have hU4' : Upd m3 m4 [s, bw] := ⟨hU4.next, fun b hb hn => hU4.same b hb fun hm => hn (by simp at hm; simp [hm])⟩
      have hX4 : Ext m0 m4 := hU4.ext_of hX3 (by simpa using h.ge.1)
      try simp only [go_sem, ruB]
      exact ⟨A, S, t, wa, ws, _, rfl, ⟨⟨_, _, hS4⟩, hb3.upd hU4 (by simpa using fun e => h.ne e.symm), hpa3.upd hU4', hps3.upd hU4', h.ge, h.ne, hX4⟩, by omega⟩
end Go.Am


/- StagePlays: Cut and Turn; one call. -/
set_option linter.unusedVariables false
set_option linter.unusedSimpArgs false
namespace Go.Am
open Classical
variable {m : Mem}

set_option maxHeartbeats 8000000 in
theorem Stage_oth {m0 : Mem} {s bw i t d : Nat} {A S p : PlanD} {wa ws lv pv : Value} {k u : Int} (h : PI m0 m s bw A S t wa ws) (ht : t < 1000) (hd : Bk m d (acV k u p pv) 5) (hds : d ≠ s ∧ d ≠ bw) (op : pv.oneCell' = true) :
    gp R sOth (sEnv lv s bw i ++ [(12, pt d), (69, .int .i64 k), (70, .bool false)]) m fun x e' m' => x = .normal ∧ ∃ (A' S' : PlanD) (t' : Nat) (wa' ws' : Value) (rs : Env), e' = sEnv lv s bw i ++ rs ∧ PI m0 m' s bw A' S' t' wa' ws' ∧ t' ≤ t + 1 := by
  simp only [sOth, sSw, sBlk, sqA, sqB, bkC, cnB, RB.law26_StagePlays_1, sEnv, List.cons_append, List.nil_append, pt]
  obtain ⟨av, sv, hS⟩ := h.st
  have hb := h.bk
  have hbl := hb.lt
  have hsl := hS.bk.lt
  simp only [stgV] at hb
  simp only [acV] at hd
  have oa := h.pa.one
  have os := h.ps.one
  by_cases g2 : k = 2
  · have e1 : (k == 2) = true := by rw [beq_iff_eq]; exact g2
    try simp only [go_sem, ruB, e1, hb.at_, hd.at_]
    refine gC.of (refCut_spec (A := A) (S := S) (n := ((t : Nat) : Int)) (u := u) h.pa os hS.ga (by simp; omega)) ?_
    rintro _ m1 ⟨hx1, lv', rfl, hP1⟩
    have h1 := h.keep hx1
    have hd1 := hd.keep hx1
    have hb1 := hb.keep hx1
    have o1 := hP1.one
    have nd : (d = bw) = False := eq_false hds.2
    have hbn := hb1.ne
    have hdn := hd1.ne
    have nb2 : (m1.next = bw) = False := eq_false fun e => (of_eq_false hbn) e.symm
    simp only [stgV]
    try simp only [go_sem, ruB, aExt0, aExt1, o1, os, nd, hbn, hdn, nb2, hb1.at_, hd1.at_]
    have hx2 : Ext m1 (m1.new (.cells [.int .i64 (cutP A u).frame, u32 (cutP A u).cores, lv', .int .i64 S.frame, u32 S.cores, ws, .int .i64 ((t : Nat) : Int)] (some 7))) := Ext.new
    have hb13 : Bk (m1.new (.cells [.int .i64 (cutP A u).frame, u32 (cutP A u).cores, lv', .int .i64 S.frame, u32 S.cores, ws, .int .i64 ((t : Nat) : Int)] (some 7))) m1.next [.int .i64 (cutP A u).frame, u32 (cutP A u).cores, lv', .int .i64 S.frame, u32 S.cores, ws, .int .i64 ((t : Nat) : Int)] 7 := Bk.new
    generalize m1.new (.cells [.int .i64 (cutP A u).frame, u32 (cutP A u).cores, lv', .int .i64 S.frame, u32 S.cores, ws, .int .i64 ((t : Nat) : Int)] (some 7)) = m2 at hx2 hb13 ⊢
    have hb2 := hb1.keep hx2
    have hd2 := hd1.keep hx2
    have hU3 : Upd m2 (m2.set bw (some (.cells [.int .i64 (cutP A u).frame, u32 (cutP A u).cores, lv', .int .i64 S.frame, u32 S.cores, ws, .int .i64 ((t : Nat) : Int)] (some 7)))) [bw] := Upd.set (by simp)
    have hb3 : Bk (m2.set bw (some (.cells [.int .i64 (cutP A u).frame, u32 (cutP A u).cores, lv', .int .i64 S.frame, u32 S.cores, ws, .int .i64 ((t : Nat) : Int)] (some 7)))) bw (stgV (cutP A u) lv' S ws ((t : Nat) : Int)) 7 := ⟨by simp [Mem.set, stgV], hb2.lt⟩
    generalize m2.set bw (some (.cells [.int .i64 (cutP A u).frame, u32 (cutP A u).cores, lv', .int .i64 S.frame, u32 S.cores, ws, .int .i64 ((t : Nat) : Int)] (some 7))) = m3 at hU3 hb3 ⊢
    have hX2 := h.ext.trans (hx1.trans hx2)
    have hX3 : Ext m0 m3 := hU3.ext_of hX2 (by simpa using h.ge.2)
    have hS3 := ((hS.keep hx1).keep hx2).upd hU3 (by simpa using h.ne) (by simp)
    have hU3' : Upd m2 m3 [s, bw] := ⟨hU3.next, fun b hb hn => hU3.same b hb fun hm => hn (by simp at hm; simp [hm])⟩
    have hpa3 := (hP1.keep hx2).upd hU3'
    have hps3 := ((h.ps.keep hx1).keep hx2).upd hU3'
    refine gC.of (Cut_spec (u := u) hS3 (by simp) (by have := hS3.bk.lt; have := hb3.lt; simp; omega)) ?_
    rintro _ m4 ⟨hU4, rfl, lw, hS4⟩
    have hU4' : Upd m3 m4 [s, bw] := ⟨hU4.next, fun b hb hn => hU4.same b hb fun hm => hn (by simp at hm; simp [hm])⟩
    have hX4 : Ext m0 m4 := hU4.ext_of hX3 (by simpa using h.ge.1)
    have dF : (!(decide (hasU A.places u) == decide (hasU A.places u))) = false := by simp
    try simp only [go_sem, ruB, dF]
    exact ⟨cutP A u, S, t, lv', ws, _, rfl, ⟨⟨_, _, hS4⟩, hb3.upd hU4 (by simpa using fun e => h.ne e.symm), hpa3.upd hU4', hps3.upd hU4', h.ge, h.ne, hX4⟩, by omega⟩
  · have e1 : (k == 2) = false := by rw [beq_eq_false_iff_ne]; exact g2
    by_cases g3 : k = 3
    · have e3 : (k == 3) = true := by rw [beq_iff_eq]; exact g3
      try simp only [go_sem, ruB, e1, e3, hb.at_]
      refine gC.of (refTurn_spec (A := A) (S := S) (n := ((t : Nat) : Int)) h.pa h.ps hS.ga hS.gs ⟨by omega, by omega⟩) ?_
      rintro _ m1 ⟨hx1, lv', rfl, ho1⟩
      have h1 := h.keep hx1
      have hb1 := hb.keep hx1
      have hbn := hb1.ne
      have nb2 : (m1.next = bw) = False := eq_false fun e => (of_eq_false hbn) e.symm
      simp only [stgV]
      try simp only [go_sem, ruB, aExt0, aExt1, os, hbn, nb2, hb1.at_]
      have hx2 : Ext m1 (m1.new (.cells [.int .i64 S.frame, u32 S.cores, ws, .int .i64 S.frame, u32 S.cores, ws, .int .i64 (((t : Nat) : Int) + 1)] (some 7))) := Ext.new
      have hb13 : Bk (m1.new (.cells [.int .i64 S.frame, u32 S.cores, ws, .int .i64 S.frame, u32 S.cores, ws, .int .i64 (((t : Nat) : Int) + 1)] (some 7))) m1.next [.int .i64 S.frame, u32 S.cores, ws, .int .i64 S.frame, u32 S.cores, ws, .int .i64 (((t : Nat) : Int) + 1)] 7 := Bk.new
      generalize m1.new (.cells [.int .i64 S.frame, u32 S.cores, ws, .int .i64 S.frame, u32 S.cores, ws, .int .i64 (((t : Nat) : Int) + 1)] (some 7)) = m2 at hx2 hb13 ⊢
      have hb2 := hb1.keep hx2
      have hU3 : Upd m2 (m2.set bw (some (.cells [.int .i64 S.frame, u32 S.cores, ws, .int .i64 S.frame, u32 S.cores, ws, .int .i64 (((t : Nat) : Int) + 1)] (some 7)))) [bw] := Upd.set (by simp)
      have hb3 : Bk (m2.set bw (some (.cells [.int .i64 S.frame, u32 S.cores, ws, .int .i64 S.frame, u32 S.cores, ws, .int .i64 (((t : Nat) : Int) + 1)] (some 7)))) bw (stgV S ws S ws (((t + 1 : Nat) : Nat) : Int)) 7 := ⟨by simp [Mem.set, stgV], hb2.lt⟩
      generalize m2.set bw (some (.cells [.int .i64 S.frame, u32 S.cores, ws, .int .i64 S.frame, u32 S.cores, ws, .int .i64 (((t : Nat) : Int) + 1)] (some 7))) = m3 at hU3 hb3 ⊢
      have hX2 := h.ext.trans (hx1.trans hx2)
      have hX3 : Ext m0 m3 := hU3.ext_of hX2 (by simpa using h.ge.2)
      have hS3 := ((hS.keep hx1).keep hx2).upd hU3 (by simpa using h.ne) (by simp)
      have hU3' : Upd m2 m3 [s, bw] := ⟨hU3.next, fun b hb hn => hU3.same b hb fun hm => hn (by simp at hm; simp [hm])⟩
      have hps3 := ((h.ps.keep hx1).keep hx2).upd hU3'
      have hge1 := ho1.ge
      have ho3 := (ho1.keep hx2).updq hU3 (fun b hb hm => by have := hge1 b hb; simp at hm; omega)
      refine gC.of (Turn_spec hS3 (by simp) (by have := hS3.bk.lt; have := hb3.lt; simp; omega) ⟨by omega, by omega⟩) ?_
      rintro rr m4 ⟨hU4, ⟨lw, hS4⟩, la, lk, q1, q2, ho4⟩
      have hU4' : Upd m3 m4 [s, bw] := ⟨hU4.next, fun b hb hn => hU4.same b hb fun hm => hn (by simp at hm; simp [hm])⟩
      have hX4 : Ext m0 m4 := hU4.ext_of hX3 (by simpa using h.ge.1)
      rw [moved_good q1 q2 hS.ga hS.gs] at ho4
      have hs4 := ho3.updq hU4 (fun b hb hm => by have := hge1 b hb; simp at hm; omega)
      have hll : (listL (isU0 A.places S.places) A.places S.places).length < 1000000 := by
        have := unitsL_len (a := A.places) (b := S.places) 1040
        have h2 : (listL (isU0 A.places S.places) A.places S.places).length ≤ (unitsL A.places S.places 1040).length := List.length_filter_le ..
        omega
      try simp only [go_sem, ruB]
      refine gC.of (ref03_Same_spec ho4.sl hs4.sl hll hll) ?_
      rintro _ _ ⟨rfl, hm⟩
      replace hm := hm.symm
      subst hm
      have dL : decide (listL (isU0 A.places S.places) A.places S.places = listL (isU0 A.places S.places) A.places S.places) = true := by simp
      try simp only [go_sem, ruB, dL]
      exact ⟨S, S, t + 1, ws, ws, _, rfl, ⟨⟨_, _, hS4⟩, hb3.upd hU4 (by simpa using fun e => h.ne e.symm), hps3.upd hU4', hps3.upd hU4', h.ge, h.ne, hX4⟩, by omega⟩
    · have e3 : (k == 3) = false := by rw [beq_eq_false_iff_ne]; exact g3
      try simp only [go_sem, ruB, e1, e3]
      exact ⟨A, S, t, wa, ws, _, rfl, h, by omega⟩

set_option maxHeartbeats 4000000 in
theorem Stage_sw {m0 : Mem} {s bw i t d : Nat} {A S p : PlanD} {wa ws lv pv : Value} {k u : Int} (h : PI m0 m s bw A S t wa ws) (ht : t < 1000) (hd : Bk m d (acV k u p pv) 5) (hds : d ≠ s ∧ d ≠ bw) (hp : PlsV m0 p.places pv) (hli : lightP p = true) (hpl : PlanL p) {rest : Env} :
    gp R sSw (sEnv lv s bw i ++ ((12, pt d) :: rest)) m fun x e' m' => x = .normal ∧ ∃ (A' S' : PlanD) (t' : Nat) (wa' ws' : Value), e' = sEnv lv s bw i ∧ PI m0 m' s bw A' S' t' wa' ws' ∧ t' ≤ t + 1 := by
  rw [ssw_eq]
  have hdq := hd
  simp only [acV] at hdq
  simp only [sS0, sSw, sBlk, sqA, sqB, bkC, RB.law26_StagePlays_1, sEnv, List.cons_append, List.nil_append, pt]
  try simp only [go_sem, ruB, hdq.at_]
  refine gp_mono (Q' := fun x e' m' => x = .normal ∧ m' = m ∧ e' = sEnv lv s bw i ++ [(12, pt d), (69, .int .i64 k), (70, .bool (decide (k = 0 ∨ k = 1)))]) ?_ ?_
  · simp only [sFront, sSw, sBlk, sqA, sqB, bkC, RB.law26_StagePlays_1, sEnv, List.cons_append, List.nil_append, pt]
    try simp only [go_sem, ruB]
    refine gT.of (fun h0' => ?_) (fun h0' => ?_) <;> (have h0 := h0'; try simp only [decide_eq_true_eq, decide_eq_false_iff_not, beq_iff_eq, bne_iff_ne, beq_eq_false_iff_ne, ne_eq, Bool.not_eq_true', Bool.not_eq_false', bne_eq_false_iff_eq, Int.not_lt, Int.not_le] at h0)
    · have : (k = 0 ∨ k = 1) := .inl h0
      try simp only [go_sem, ruB, h0', decide_eq_true this]
    · have e : (k == 1) = decide (k = 0 ∨ k = 1) := by rw [Bool.eq_iff_iff]; simp [h0]
      try simp only [go_sem, ruB, h0', e]
  rintro _ _ m1 ⟨rfl, hm, rfl⟩
  replace hm := hm.symm
  subst hm
  by_cases hk : k = 0 ∨ k = 1
  · rw [decide_eq_true hk]
    simp only [sEnv, List.cons_append, List.nil_append, pt, go_sem]
    have k1 := Stage_set (lv := lv) (i := i) h ht hd hds hp hli hpl
    simp only [sEnv, List.cons_append, List.nil_append, pt] at k1
    refine gp_mono k1 ?_
    rintro _ _ m2 ⟨rfl, A', S', t', wa', ws', rs, rfl, hI, ht'⟩
    try simp only [go_sem, ruB]
    exact ⟨A', S', t', wa', ws', hI, ht'⟩
  · rw [decide_eq_false hk]
    simp only [sEnv, List.cons_append, List.nil_append, pt, go_sem]
    have k1 := Stage_oth (lv := lv) (i := i) h ht hd hds hp.one
    simp only [sEnv, List.cons_append, List.nil_append, pt] at k1
    refine gp_mono k1 ?_
    rintro _ _ m2 ⟨rfl, A', S', t', wa', ws', rs, rfl, hI, ht'⟩
    try simp only [go_sem, ruB]
    exact ⟨A', S', t', wa', ws', hI, ht'⟩
end Go.Am


/- The law StagePlays. -/
set_option linter.unusedVariables false
set_option linter.unusedSimpArgs false
namespace Go.Am
open Classical
variable {m : Mem}

structure SAct where
  k : Int
  p : PlanD
  u : Int
def SActsV (m : Mem) (l : List SAct) (v : Value) : Prop := ∃ cs, Sl m 5 l.length cs v ∧ SlLt m v ∧ ∀ (i : Nat) (h : i < l.length), ∃ pv, (cs.drop (i * 5)).take 5 = acV l[i].k l[i].u l[i].p pv ∧ PlsV m l[i].p.places pv
theorem SActsV.len {m m' : Mem} {l : List SAct} {v : Value} (h : SActsV m l v) : aLen v = some (.int .i64 l.length) := let ⟨_, a, _⟩ := h; a.len
theorem SActsV.elem {m0 m : Mem} {l : List SAct} {v : Value} (h : SActsV m0 l v) (hx : Ext m0 m) {i : Nat} (hi : i < l.length) : ∃ b o pv, aIdxS 5 v (.int .i64 i) = some (.pointer (some ⟨b, o, none⟩)) ∧
    aLoad true 5 m (.pointer (some ⟨b, o, none⟩)) = some (.agg (acV l[i].k l[i].u l[i].p pv).toArray) ∧ PlsV m0 l[i].p.places pv := by
  obtain ⟨cs, a, b, c⟩ := h
  obtain ⟨pv, d, e⟩ := c i hi
  obtain ⟨b', o', h1, h2, h3⟩ := (a.keep b hx).cell (k := .i64) hi
  exact ⟨b', o', pv, h1, by rw [h3, d], e⟩
theorem sact_read {m : Mem} {cs : List Value} (h : RdL m [.int .i64, .int .i64, .int .u32, .sl [.int .i64, .int .i64, .int .i64, .sl [.int .i64, .int .u64]], .int .i64] cs) : ∃ (a : SAct) (pv : Value), cs = acV a.k a.u a.p pv ∧ PlsV m a.p.places pv := by
  obtain ⟨z, r, rfl, h0, k0⟩ := h.one
  obtain ⟨a, r, rfl, h1, k1⟩ := k0.one
  obtain ⟨b, r, rfl, h2, k2⟩ := k1.one
  obtain ⟨c, r, rfl, h3, k3⟩ := k2.one
  obtain ⟨w, r, rfl, h4, k4⟩ := k3.one
  cases k4.none
  obtain ⟨k, rfl, -⟩ := h0.i64
  obtain ⟨f, rfl, b1⟩ := h1.i64
  obtain ⟨x, rfl⟩ := rd_u32 h2
  obtain ⟨l, hl, hb⟩ := pls_read h3
  obtain ⟨u, rfl, -⟩ := h4.i64
  exact ⟨⟨k, ⟨f, x, l⟩, u⟩, c, rfl, hl⟩
theorem sacts_read {m : Mem} {v : Value} (h : Rd m (.sl [.int .i64, .int .i64, .int .u32, .sl [.int .i64, .int .i64, .int .i64, .sl [.int .i64, .int .u64]], .int .i64]) v) : ∃ l : List SAct, SActsV m l v := by
  simp only [Rd] at h
  obtain ⟨n, cs, h1, h2, h3, h4, -⟩ := h
  obtain ⟨l, rfl, hl⟩ := list_choice fun i hi => sact_read (h4 i hi)
  exact ⟨l, cs, h1, h2, fun i hi => by obtain ⟨pv, a, b⟩ := hl i hi; exact ⟨pv, a, b⟩⟩
theorem light_l {p : PlanD} (h : lightP p = true) : PlanL p := by
  simp only [lightP, Bool.and_eq_true, decide_eq_true_eq, List.all_eq_true] at h
  refine ⟨by omega, fun x hx => ?_⟩
  have := h.1 x (by rw [List.take_of_length_le (by omega)]; exact hx)
  omega

set_option maxHeartbeats 4000000 in
theorem StagePlays_loop {m0 : Mem} {l : List SAct} {lv : Value} {s bw : Nat} {A S : PlanD} {wa ws : Value} (hl : SActsV m0 l lv) (h0 : PI m0 m s bw A S 0 wa ws) :
    WL R [2, 7, 10, 11] RB.law26_StagePlays_1 (sEnv lv s bw 0) m fun y e m' => y = .exit 0 := by
  refine WL.of (fun n e m' => ∃ (i : Nat) (A S : PlanD) (t : Nat) (wa ws : Value), i ≤ l.length ∧ i ≤ 12 ∧ t ≤ i ∧ n = l.length - i ∧ e = sEnv lv s bw i ∧ PI m0 m' s bw A S t wa ws) l.length
    ⟨0, A, S, 0, wa, ws, by omega, by omega, by omega, by omega, by simp only [sEnv, go_sem], h0⟩ ?_
  rintro _ _ m1 ⟨i, A, S, t, wa, ws, hi, hi12, hti, rfl, rfl, h⟩
  rw [splays_eq]
  simp only [sCond, sqA, sqB, RB.law26_StagePlays_1, sEnv, pt, go_sem, ruB, hl.len (m' := m1)]
  have s1 := step1 (show i < 1000000 by omega)
  by_cases g1 : i < l.length
  · have e1 : decide ((i : Int) < (l.length : Int)) = true := decide_eq_true (by omega)
    by_cases g2 : i < 12
    · have e2 : decide ((i : Int) < 12) = true := decide_eq_true (by omega)
      obtain ⟨bb, oo, pv, a1, a2, hp⟩ := hl.elem h.ext g1
      simp only [go_sem, e1, e2]
      simp only [sBox, sBlk, sqA, sqB, bkC, RB.law26_StagePlays_1]
      generalize l[i].k = k at *
      generalize l[i].u = u at *
      generalize l[i].p = p at *
      simp only [acV] at a2
      have op := hp.one
      try simp only [go_sem, ruB, a1, a2, op]
      have hx2 : Ext m1 (m1.new (.cells [.int .i64 k, .int .i64 p.frame, u32 p.cores, pv, .int .i64 u] (some 5))) := Ext.new
      have hb2 : Bk (m1.new (.cells [.int .i64 k, .int .i64 p.frame, u32 p.cores, pv, .int .i64 u] (some 5))) m1.next [.int .i64 k, .int .i64 p.frame, u32 p.cores, pv, .int .i64 u] 5 := Bk.new
      generalize m1.new (.cells [.int .i64 k, .int .i64 p.frame, u32 p.cores, pv, .int .i64 u] (some 5)) = m2 at hx2 hb2 ⊢
      have h2 := h.keep hx2
      have hlt := h.bk.lt
      obtain ⟨av, sv, hS⟩ := h.st
      have hlt2 := hS.bk.lt
      simp only [sLight, sBlk, sqA, sqB, bkC, RB.law26_StagePlays_1]
      try simp only [go_sem, ruB, hb2.at_, List.drop_succ_cons, List.drop_zero, List.take_succ_cons, List.take_zero]
      refine gC.of (Light_spec (p := p) ⟨pv, rfl, hp.keep h2.ext⟩) ?_
      rintro _ m3 ⟨rfl, hx3⟩
      have h3 := h2.keep hx3
      have hb3 : Bk m3 m1.next (acV k u p pv) 5 := hb2.keep hx3
      by_cases g3 : lightP p = true
      · try simp only [go_sem, ruB, g3]
        have k1 := Stage_sw (lv := lv) (i := i) (rest := [(67, .bool false)]) h3 (by omega) hb3 ⟨by omega, by omega⟩ hp g3 (light_l g3)
        simp only [sEnv, List.cons_append, List.nil_append, pt] at k1
        refine gp_mono k1 ?_
        rintro _ _ m4 ⟨rfl, A', S', t', wa', ws', rfl, hI, ht'⟩
        simp only [go_sem]
        have k2 := Stage_rest (lv := lv) (i := i) hI
        simp only [sEnv, List.cons_append, List.nil_append, pt] at k2
        refine gp_mono k2 ?_
        rintro _ _ m5 ⟨rfl, rfl, hI5⟩
        simp only [sInc, sqB, RB.law26_StagePlays_1]
        try simp only [go_sem, ruB, s1]
        exact ⟨l.length - (i + 1), by omega, i + 1, A', S', t', wa', ws', by omega, by omega, by omega, rfl, rfl, hI5⟩
      · try simp only [go_sem, ruB, g3]
        simp only [sInc, sqB, RB.law26_StagePlays_1]
        try simp only [go_sem, ruB, s1]
        exact ⟨l.length - (i + 1), by omega, i + 1, A, S, t, wa, ws, by omega, by omega, by omega, rfl, rfl, h3⟩
    · have e2 : decide ((i : Int) < 12) = false := decide_eq_false (by omega)
      try simp only [go_sem, ruB, e1, e2]
  · have e1 : decide ((i : Int) < (l.length : Int)) = false := decide_eq_false (by omega)
    try simp only [go_sem, ruB, e1]

set_option maxHeartbeats 4000000 in
theorem StagePlays_spec {l : List SAct} {lv : Value} {f : Int} {c : BitVec 32} (hl : SActsV m l lv) : WC R F.law26_StagePlays [.int .i64 f, u32 c, lv] m fun r m' => r = .bool true := by
  refine WC.of R.law26_StagePlays rfl ?_
  have hfl : fillL [.int .i64 0, u32 0#32, .slice none 0 0] [(0, 1, .int .i64 f), (1, 1, u32 c)] = some [.int .i64 f, u32 c, .slice none 0 0] := rfl
  simp only [RC.law26_StagePlays, go_sem]
  refine gC.of (New_spec (f := f) (c := c)) ?_
  rintro _ m1 ⟨hx1, hr⟩
  have hfl2 : fillL [.int .i64 0, u32 0#32, .slice none 0 0, .int .i64 0, u32 0#32, .slice none 0 0, .int .i64 0] [(0, 3, .agg #[.int .i64 f, u32 c, .slice none 0 0]), (3, 3, .agg #[.int .i64 f, u32 c, .slice none 0 0])] = some [.int .i64 f, u32 c, .slice none 0 0, .int .i64 f, u32 c, .slice none 0 0, .int .i64 0] := rfl
  have hnil : ∀ M, PlsV M (empQ f c).places (.slice none 0 0) := fun M => ⟨[], .nil rfl rfl, trivial, fun i hi => by simp [empQ] at hi⟩
  rcases hr with ⟨hc, rfl⟩ | ⟨hc, s, rfl, hs, hS⟩
  · try simp only [go_sem, ruB, aExt0, aExt1, ↓hfl]
    have hx2 : Ext m1 (m1.new (.cells [.int .i64 f, u32 c, .slice none 0 0] (some 3))) := Ext.new
    have hb2 : Bk (m1.new (.cells [.int .i64 f, u32 c, .slice none 0 0] (some 3))) m1.next [.int .i64 f, u32 c, .slice none 0 0] 3 := Bk.new
    generalize m1.new (.cells [.int .i64 f, u32 c, .slice none 0 0] (some 3)) = m2 at hx2 hb2 ⊢
    try simp only [go_sem, ruB, hb2.at_]
    refine gC.of (refRight_spec (p := empQ f c) (v := .agg #[.int .i64 f, u32 c, .slice none 0 0]) ⟨.slice none 0 0, rfl, hnil _⟩ empQ_l.len empQ_l.pcs) ?_
    rintro _ m3 ⟨rfl, hx3⟩
    have hn : ¬ RightP (empQ f c) := fun h => hc (check_iff.2 h)
    try simp only [go_sem, ruB, decide_eq_false hn, Option.isNone_none]
    refine gC.of (ok_specS R.law26_awake) ?_
    rintro _ m_ ⟨rfl, hm_⟩
    replace hm_ := hm_.symm
    subst hm_
    simp only [go_sem]
    try simp only [go_sem, ruB]
  · simp only [pt]
    try simp only [go_sem, ruB, aExt0, aExt1, ↓hfl]
    have hx2 : Ext m1 (m1.new (.cells [.int .i64 f, u32 c, .slice none 0 0] (some 3))) := Ext.new
    have hb2 : Bk (m1.new (.cells [.int .i64 f, u32 c, .slice none 0 0] (some 3))) m1.next [.int .i64 f, u32 c, .slice none 0 0] 3 := Bk.new
    generalize m1.new (.cells [.int .i64 f, u32 c, .slice none 0 0] (some 3)) = m2 at hx2 hb2 ⊢
    try simp only [go_sem, ruB, hb2.at_]
    refine gC.of (refRight_spec (p := empQ f c) (v := .agg #[.int .i64 f, u32 c, .slice none 0 0]) ⟨.slice none 0 0, rfl, hnil _⟩ empQ_l.len empQ_l.pcs) ?_
    rintro _ m3 ⟨rfl, hx3⟩
    have hy : RightP (empQ f c) := check_iff.1 hc
    have hb3 := hb2.keep hx3
    have hX := (hx1.trans hx2).trans hx3
    have hS3 := ((hS []).keep hx2).keep hx3
    have hsl := ((hS [])).bk.lt
    have hn2 := hx2.next
    have hn3 := hx3.next
    try simp only [go_sem, ruB, decide_eq_true hy, hb3.at_, ↓hfl2]
    have hx4 : Ext m3 (m3.new (.cells [.int .i64 f, u32 c, .slice none 0 0, .int .i64 f, u32 c, .slice none 0 0, .int .i64 0] (some 7))) := Ext.new
    have hb4 : Bk (m3.new (.cells [.int .i64 f, u32 c, .slice none 0 0, .int .i64 f, u32 c, .slice none 0 0, .int .i64 0] (some 7))) m3.next [.int .i64 f, u32 c, .slice none 0 0, .int .i64 f, u32 c, .slice none 0 0, .int .i64 0] 7 := Bk.new
    generalize m3.new (.cells [.int .i64 f, u32 c, .slice none 0 0, .int .i64 f, u32 c, .slice none 0 0, .int .i64 0] (some 7)) = m4 at hx4 hb4 ⊢
    have hE : PlanE m4 [s, m3.next] (empQ f c) (.slice none 0 0) := ⟨[], rfl, ⟨.nil rfl rfl, trivial⟩, by simp [vb], by simp⟩
    have hI : PI m m4 s m3.next (empQ f c) (empQ f c) 0 (.slice none 0 0) (.slice none 0 0) := ⟨⟨_, _, (((hS [s, m3.next]).keep hx2).keep hx3).keep hx4⟩, hb4, hE, hE, ⟨hs, hX.next⟩, by omega, hX.trans hx4⟩
    refine WL.mono (StagePlays_loop hl hI) ?_
    rintro _ _ m5 rfl
    try simp only [go_sem, ruB]
    refine gC.of (ok_specS R.law26_awake) ?_
    rintro _ m_ ⟨rfl, hm_⟩
    replace hm_ := hm_.symm
    subst hm_
    simp only [go_sem]
    try simp only [go_sem, ruB]
end Go.Am


/- StagePlays, of arguments as they are read. -/
set_option linter.unusedVariables false
namespace Go.Am
theorem law26_StagePlays_walk (m : Mem) (us : List Value) (h : RdAs m [(false, [.int .i64]), (false, [.int .u32]), (false, [.sl [.int .i64, .int .i64, .int .u32, .sl [.int .i64, .int .i64, .int .i64, .sl [.int .i64, .int .u64]], .int .i64]])] us) : WC R F.law26_StagePlays us m fun v _ => v = .bool true := by
  obtain ⟨_, _, rfl, h1, h⟩ := h.one; obtain ⟨_, _, rfl, h2, h⟩ := h.one; obtain ⟨_, _, rfl, h3, h⟩ := h.one; cases h.none
  obtain ⟨f, rfl, -⟩ := h1.rd.i64; obtain ⟨c, rfl⟩ := rd_u32 h2.rd
  obtain ⟨l, hl⟩ := sacts_read h3.rd
  exact StagePlays_spec hl
end Go.Am
