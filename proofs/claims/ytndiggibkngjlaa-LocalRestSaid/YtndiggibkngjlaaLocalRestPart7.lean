/- Parts of the proofs of the statements of this seat: AmOwnQ, LocalOrderW, AmMap, LocalOrderW2, LocalCoresMul, LocalW, LocalW2, LocalW3, LocalW4. No conditions. -/
import Derived.Test.YtndiggibkngjlaaLocalRestPart6
import Derived.Test.YtndiggibkngjlaaLocalRestPart4
import Derived.Test.YtndiggibkngjlaaLocalRestPart5
set_option linter.unusedVariables false
set_option linter.unusedSimpArgs false

/- One's own slice whose first block is older than what else is there: only that block, and newer ones, are touched. -/
set_option linter.unusedVariables false
set_option linter.unusedSimpArgs false
namespace Go.Am

theorem app_updA {at_ : Option Nat} {u by_ M : Nat} {m m' : Mem} {v v' x : Value} (h : aApp at_ u by_ m v x = some (v', m')) (ha : ∀ k, at_ = some k → M ≤ k) (hM : M ≤ m.next) :
    m.next ≤ m'.next ∧ (∀ b, b < M → b ∉ vb v → m'.blk b = m.blk b) ∧ (vb v' = vb v ∨ ∃ k, vb v' = [k] ∧ M ≤ k) := by
  have hpl : ∀ (m1 : Mem) (o : AObj), m1.next = m.next → m.next ≤ (place at_ m1 o).2.next ∧ (∀ b, b < M → (place at_ m1 o).2.blk b = m1.blk b) ∧ M ≤ (place at_ m1 o).1 := by
    intro m1 o h1
    unfold place
    split
    · refine ⟨by show m.next ≤ m1.next + 1; omega, fun b hb => ?_, by show M ≤ m1.next; omega⟩
      show (if b = m1.next then _ else _) = _
      rw [if_neg (by omega)]
    · rename_i k
      have := ha k rfl
      refine ⟨by show m.next ≤ m1.next; omega, fun b hb => ?_, this⟩
      show (if b = k then _ else _) = _
      rw [if_neg (by omega)]
  unfold aApp at h
  rw [Option.bind_eq_some_iff] at h
  obtain ⟨n, hn, h⟩ := h
  rw [Option.bind_eq_some_iff] at h
  obtain ⟨xs, hxs, h⟩ := h
  split at h
  · split at h
    · cases h; exact ⟨Nat.le_refl _, fun _ _ _ => rfl, .inl rfl⟩
    · split at h
      · obtain ⟨p1, p2, p3⟩ := hpl m (.cells xs (some u)) rfl
        generalize place at_ m (.cells xs (some u)) = P at h p1 p2 p3
        obtain ⟨b, m1⟩ := P
        cases h
        exact ⟨p1, fun b hb _ => p2 b hb, .inr ⟨_, rfl, p3⟩⟩
      · cases h
  · rename_i b o l c
    split at h
    · split at h
      · cases h; exact ⟨Nat.le_refl _, fun _ _ _ => rfl, .inl rfl⟩
      · cases h
    · split at h
      · rw [Option.map_eq_some_iff] at h
        obtain ⟨m1, h1, h2⟩ := h
        cases h2
        obtain ⟨a1, a2⟩ := aWrite_upd h1
        refine ⟨by omega, fun x hx hn => ?_, .inl rfl⟩
        exact a1.same x (by omega) hn
      · split at h
        · rename_i cs own hb
          split at h
          · have hs : ∀ c : Bool, (if c = true then m.set b none else m).next = m.next ∧ ∀ x, x ≠ b → (if c = true then m.set b none else m).blk x = m.blk x := by
              intro c
              cases c
              · exact ⟨rfl, fun _ _ => rfl⟩
              · refine ⟨rfl, fun x hx => ?_⟩
                show (if x = b then _ else _) = _
                rw [if_neg hx]
            simp only [] at h
            generalize hm1 : (if own.isSome = true ∧ o + c * u = cs.length then m.set b none else m) = m1 at h
            have hs1 : m1.next = m.next ∧ ∀ x, x ≠ b → m1.blk x = m.blk x := by
              rw [← hm1]
              split
              · exact hs true
              · exact hs false
            obtain ⟨p1, p2, p3⟩ := hpl m1 (.cells (List.take (l * u) (List.drop o cs) ++ xs) (some u)) hs1.1
            generalize place at_ m1 (.cells (List.take (l * u) (List.drop o cs) ++ xs) (some u)) = P at h p1 p2 p3
            obtain ⟨b', m2⟩ := P
            cases h
            refine ⟨p1, fun x hx hn => ?_, .inr ⟨_, rfl, p3⟩⟩
            rw [p2 x hx, hs1.2 x (by intro e; apply hn; simp [vb, e])]
          · cases h
        · cases h
  · cases h

theorem Own.ge {m0 m : Mem} {u n : Nat} {cs : List Value} {v : Value} (h : Own m0 m u n cs v) : ∀ b ∈ vb v, m0.next ≤ b := by
  cases h with
  | nil => intro b hb; simp [vb] at hb
  | «at» hb hb2 hn hm hl hcs h1 => intro b' hb'; simp [vb] at hb'; subst hb'; exact hb

structure OwnQ (m0 mb m : Mem) (q u n : Nat) (cs : List Value) (v : Value) : Prop where
  own : Own m0 m u n cs v
  upd : Upd mb m [q]
  at_ : ∀ b ∈ vb v, b = q ∨ mb.next ≤ b
  ext : Ext m0 m

variable {m0 mb m m' : Mem} {q u n : Nat} {cs : List Value} {v : Value}
theorem OwnQ.keep (h : OwnQ m0 mb m q u n cs v) (hx : Ext m m') : OwnQ m0 mb m' q u n cs v :=
  ⟨h.own.keep hx, h.upd.trans hx.upd (fun _ h => h) (fun _ h => .inl h), h.at_, h.ext.trans hx⟩

theorem OwnQ.app {by_ : Nat} {es : List Value} (h : OwnQ m0 mb m q u n cs v) (hu : 0 < u) (he : es.length = u) (h1 : oneCells es = true) (hby : (n + 1) * by_ ≤ 2 ^ 47) (hn : n + 1 < 2 ^ 62) :
    ∃ v' m', aApp none u by_ (m.new (.cells es (some u))) v (.slice (some ⟨m.next, 0, none⟩) 1 1) = some (v', m') ∧ OwnQ m0 mb m' q u (n + 1) (cs ++ es) v' := by
  obtain ⟨v', m', e1, e2, e3⟩ := h.own.app (by_ := by_) h.ext hu he h1 hby hn
  have hx : Ext m (m.new (.cells es (some u))) := Ext.new
  obtain ⟨a1, a2, a3⟩ := app_updA (M := (m.new (.cells es (some u))).next) e1 (fun k hk => by cases hk) (Nat.le_refl _)
  refine ⟨v', m', e1, e2, ?_, fun b hb => ?_, e3⟩
  · have hk := h.keep hx
    refine ⟨Nat.le_trans hk.upd.next a1, fun b hb hn => ?_⟩
    have hb2 := hk.upd.next
    rw [a2 b (by omega) (fun hm => by exact (h.at_ b hm).elim (fun e => hn (by simp [e])) (fun e => by omega)), hk.upd.same b hb hn]
  · have := h.upd.next
    have := hx.next
    rcases a3 with e | ⟨k, e, hk⟩
    · rw [e] at hb; exact h.at_ b hb
    · rw [e] at hb; simp at hb; subst hb; exact .inr (by omega)

theorem OwnQ.appD {by_ N s t : Nat} {es : List Value} (h : OwnQ m0 mb m q u n cs v) (he : es.length = u) (h1 : oneCells es = true) (hby : (n + 1) * by_ ≤ 2 ^ 47) (hn : n + 1 < 2 ^ 62) (hs : s < N) (ht : t < N) :
    ∃ v' m', aApp (some (m.next + t)) u by_ ((m.bump N).set (m.next + s) (some (.cells es (some u)))) v (.slice (some ⟨m.next + s, 0, none⟩) 1 1) = some (v', m') ∧ OwnQ m0 mb m' q u (n + 1) (cs ++ es) v' := by
  obtain ⟨v', m', e1, e2, e3⟩ := h.own.appD (by_ := by_) h.ext he h1 hby hn hs ht
  have hx : Ext m ((m.bump N).set (m.next + s) (some (.cells es (some u)))) := Ext.set ⟨by simp, fun b hb => rfl⟩ (by omega)
  obtain ⟨a1, a2, a3⟩ := app_updA (M := m.next) e1 (fun k hk => by cases hk; omega) hx.next
  refine ⟨v', m', e1, e2, ?_, fun b hb => ?_, e3⟩
  · have hk := h.keep hx
    refine ⟨Nat.le_trans hk.upd.next a1, fun b hb hn => ?_⟩
    have hb2 := h.upd.next
    rw [a2 b (by omega) (fun hm => by exact (h.at_ b hm).elim (fun e => hn (by simp [e])) (fun e => by omega)), hk.upd.same b hb hn]
  · have := h.upd.next
    rcases a3 with e | ⟨k, e, hk⟩
    · rw [e] at hb; exact h.at_ b hb
    · rw [e] at hb; simp at hb; subst hb; exact .inr (by omega)

theorem OwnQ.put {w : Value} {k : IntKind} {i o : Nat} (h : OwnQ m0 mb m q u n cs v) (hi : i < n) (ho : o < u) (hw : w.cells = #[w]) (hone : w.oneCell' = true) :
    ∃ b m', aIdxS u v (.int k i) = some (.pointer (some ⟨b, i * u, none⟩)) ∧ aStore 1 m (.pointer (some ⟨b, i * u + o, none⟩)) w = some m' ∧ OwnQ m0 mb m' q u n (cs.set (i * u + o) w) v := by
  obtain ⟨b, m', e1, e2, e3, e4⟩ := h.own.put (k := k) h.ext hi ho hw hone
  refine ⟨b, m', e1, e2, e3, ?_, h.at_, e4⟩
  have hbv : b ∈ vb v := by
    cases h.own with
    | nil h hc => omega
    | @«at» b2 c all hb hb2 hn hm hl hcs h1 =>
      simp only [aIdxS] at e1
      split at e1
      · have e1 := Option.some.inj e1
        simp only [Value.pointer.injEq, Option.some.injEq, Addr.mk.injEq] at e1
        rw [← e1.1]; simp [vb]
      · cases e1
  have hw' : aWrite m b (i * u + o) w.cells.toList = some m' := by
    simp only [aStore] at e2
    split at e2
    · exact e2
    · cases e2
  obtain ⟨a1, a2⟩ := aWrite_upd hw'
  refine ⟨by have := h.upd.next; omega, fun x hx hn => ?_⟩
  have := h.upd.next
  rw [a1.same x (by omega) (by simp; intro e; subst e; exact (h.at_ x hbv).elim (fun e => hn (by simp [e])) (fun e => by omega)), h.upd.same x hx hn]
end Go.Am


/- OrderW over the table of local (relayset.py). -/
set_option linter.unusedVariables false
set_option linter.unusedSimpArgs false
namespace Go.Am
variable {m : Mem}

theorem step1 {i : Nat} (h : i < 1000000) : IntKind.wrap .i64 ((i : Int) + 1) = ((i + 1 : Nat) : Int) := by rw [wrap_i64 (by omega) (by omega)]; rfl

theorem fixAdd {a b : Int} (ha : inR a) (hb : inR b) : WC R F.fixq_Add [.int .i64 a, .int .i64 b] m fun v m' => ((inR (a + b) ∧ v = .tuple #[.int .i64 (a + b), .int .i64 0]) ∨ (¬ inR (a + b) ∧ v = .tuple #[.int .i64 0, .int .i64 5])) ∧ m' = m := by
  refine WC.of R.fixq_Add rfl ?_
  have hw : (inR (a + b) ∧ IntKind.wrap .i64 (a + b) = a + b) ∨ (9223372036854775808 ≤ a + b ∧ IntKind.wrap .i64 (a + b) = a + b - 18446744073709551616) ∨ (a + b ≤ -9223372036854775809 ∧ IntKind.wrap .i64 (a + b) = a + b + 18446744073709551616) := by
    unfold inR at ha hb
    by_cases h1 : a + b ≤ 9223372036854775807
    · by_cases h2 : -9223372036854775808 ≤ a + b
      · exact .inl ⟨⟨h2, h1⟩, wrap_i64 h2 h1⟩
      · exact .inr (.inr ⟨by omega, wrap_lo (by omega) (by omega)⟩)
    · exact .inr (.inl ⟨by omega, wrap_hi (by omega) (by omega)⟩)
  generalize hc : IntKind.wrap .i64 (a + b) = c at hw
  unfold inR at *
  simp only [RC.fixq_Add, go_sem, Bool.false_and, new_set, Int.reduceBEq, Int.reduceBNe, Int.reduceNeg, not_true_eq_false, beq_self_eq_true, bne_self_eq_false, Bool.false_eq_true, if_false, if_true, Int.cast_ofNat_Int, decide_true, decide_false, reduceCtorEq, Nat.reduceEqDiff, Nat.reduceAdd, ne_eq, not_false_eq_true, Option.map_some, Option.bind_some, Option.map_none, Option.bind_none, true_and, and_true, Bool.not_true, Bool.not_false, Nat.reduceLeDiff, Nat.reduceMul, Nat.reduceSub, Nat.le_refl, Int.reduceToNat, Int.reduceLT, Int.reduceLE, Nat.one_mul, Nat.mul_one]
  have t1 : (true == false) = false := rfl
  have t2 : (false == true) = false := rfl
  have t3 : (true == true) = true := rfl
  have t4 : (false == false) = true := rfl
  by_cases h1 : 0 ≤ a <;> by_cases h2 : 0 ≤ b <;> by_cases h3 : 0 ≤ c <;> simp only [go_sem, Bool.false_and, new_set, Int.reduceBEq, Int.reduceBNe, Int.reduceNeg, not_true_eq_false, beq_self_eq_true, bne_self_eq_false, Bool.false_eq_true, if_false, if_true, Int.cast_ofNat_Int, decide_true, decide_false, reduceCtorEq, Nat.reduceEqDiff, Nat.reduceAdd, ne_eq, not_false_eq_true, Option.map_some, Option.bind_some, Option.map_none, Option.bind_none, true_and, and_true, Bool.not_true, Bool.not_false, Nat.reduceLeDiff, Nat.reduceMul, Nat.reduceSub, Nat.le_refl, Int.reduceToNat, Int.reduceLT, Int.reduceLE, Nat.one_mul, Nat.mul_one, hc, h1, h2, h3, decide_true, decide_false, t1, t2, t3, t4]
  all_goals rcases hw with ⟨hr, e⟩ | ⟨hr, e⟩ | ⟨hr, e⟩
  all_goals first
    | (exfalso; omega)
    | (refine .inl ⟨by omega, ?_⟩; rw [e])
    | (refine .inr ⟨by omega, ?_⟩; first | rfl | trivial)
    | (omega)
    | trace_state

theorem refAdd {a b : Int} (ha : inR a) (hb : inR b) : WC R F.ref02_Add [.int .i64 a, .int .i64 b] m fun v m' => ((inR (a + b) ∧ v = .tuple #[.int .i64 (a + b), .bool true]) ∨ (¬ inR (a + b) ∧ v = .tuple #[.int .i64 0, .bool false])) ∧ m' = m := by
  refine WC.of R.ref02_Add rfl ?_
  unfold inR at *
  simp only [RC.ref02_Add, go_sem, Bool.false_and, new_set, Int.reduceBEq, Int.reduceBNe, Int.reduceNeg, not_true_eq_false, beq_self_eq_true, bne_self_eq_false, Bool.false_eq_true, if_false, if_true, Int.cast_ofNat_Int, decide_true, decide_false, reduceCtorEq, Nat.reduceEqDiff, Nat.reduceAdd, ne_eq, not_false_eq_true, Option.map_some, Option.bind_some, Option.map_none, Option.bind_none, true_and, and_true, Bool.not_true, Bool.not_false, Nat.reduceLeDiff, Nat.reduceMul, Nat.reduceSub, Nat.le_refl, Int.reduceToNat, Int.reduceLT, Int.reduceLE, Nat.one_mul, Nat.mul_one]
  by_cases h1 : 0 < b
  · have e1 : decide (0 < b) = true := decide_eq_true h1
    have w : IntKind.wrap .i64 (9223372036854775807 - b) = 9223372036854775807 - b := wrap_i64 (by omega) (by omega)
    have e0 : decide (b < 0) = false := decide_eq_false (by omega)
    simp only [go_sem, Bool.false_and, new_set, Int.reduceBEq, Int.reduceBNe, Int.reduceNeg, not_true_eq_false, beq_self_eq_true, bne_self_eq_false, Bool.false_eq_true, if_false, if_true, Int.cast_ofNat_Int, decide_true, decide_false, reduceCtorEq, Nat.reduceEqDiff, Nat.reduceAdd, ne_eq, not_false_eq_true, Option.map_some, Option.bind_some, Option.map_none, Option.bind_none, true_and, and_true, Bool.not_true, Bool.not_false, Nat.reduceLeDiff, Nat.reduceMul, Nat.reduceSub, Nat.le_refl, Int.reduceToNat, Int.reduceLT, Int.reduceLE, Nat.one_mul, Nat.mul_one, e1, w]
    by_cases h2 : 9223372036854775807 - b < a
    · have e2 : decide (9223372036854775807 - b < a) = true := decide_eq_true h2
      simp only [go_sem, Bool.false_and, new_set, Int.reduceBEq, Int.reduceBNe, Int.reduceNeg, not_true_eq_false, beq_self_eq_true, bne_self_eq_false, Bool.false_eq_true, if_false, if_true, Int.cast_ofNat_Int, decide_true, decide_false, reduceCtorEq, Nat.reduceEqDiff, Nat.reduceAdd, ne_eq, not_false_eq_true, Option.map_some, Option.bind_some, Option.map_none, Option.bind_none, true_and, and_true, Bool.not_true, Bool.not_false, Nat.reduceLeDiff, Nat.reduceMul, Nat.reduceSub, Nat.le_refl, Int.reduceToNat, Int.reduceLT, Int.reduceLE, Nat.one_mul, Nat.mul_one, e2]
      exact .inr (by omega)
    · have e2 : decide (9223372036854775807 - b < a) = false := decide_eq_false h2
      simp only [go_sem, Bool.false_and, new_set, Int.reduceBEq, Int.reduceBNe, Int.reduceNeg, not_true_eq_false, beq_self_eq_true, bne_self_eq_false, Bool.false_eq_true, if_false, if_true, Int.cast_ofNat_Int, decide_true, decide_false, reduceCtorEq, Nat.reduceEqDiff, Nat.reduceAdd, ne_eq, not_false_eq_true, Option.map_some, Option.bind_some, Option.map_none, Option.bind_none, true_and, and_true, Bool.not_true, Bool.not_false, Nat.reduceLeDiff, Nat.reduceMul, Nat.reduceSub, Nat.le_refl, Int.reduceToNat, Int.reduceLT, Int.reduceLE, Nat.one_mul, Nat.mul_one, e2, e0]
      rw [wrap_i64 (by omega) (by omega)]
      exact .inl (by simp; omega)
  · have e1 : decide (0 < b) = false := decide_eq_false h1
    simp only [go_sem, Bool.false_and, new_set, Int.reduceBEq, Int.reduceBNe, Int.reduceNeg, not_true_eq_false, beq_self_eq_true, bne_self_eq_false, Bool.false_eq_true, if_false, if_true, Int.cast_ofNat_Int, decide_true, decide_false, reduceCtorEq, Nat.reduceEqDiff, Nat.reduceAdd, ne_eq, not_false_eq_true, Option.map_some, Option.bind_some, Option.map_none, Option.bind_none, true_and, and_true, Bool.not_true, Bool.not_false, Nat.reduceLeDiff, Nat.reduceMul, Nat.reduceSub, Nat.le_refl, Int.reduceToNat, Int.reduceLT, Int.reduceLE, Nat.one_mul, Nat.mul_one, e1]
    by_cases h3 : b < 0
    · have w : IntKind.wrap .i64 (-9223372036854775808 - b) = -9223372036854775808 - b := wrap_i64 (by omega) (by omega)
      have e0 : decide (b < 0) = true := decide_eq_true h3
      simp only [go_sem, Bool.false_and, new_set, Int.reduceBEq, Int.reduceBNe, Int.reduceNeg, not_true_eq_false, beq_self_eq_true, bne_self_eq_false, Bool.false_eq_true, if_false, if_true, Int.cast_ofNat_Int, decide_true, decide_false, reduceCtorEq, Nat.reduceEqDiff, Nat.reduceAdd, ne_eq, not_false_eq_true, Option.map_some, Option.bind_some, Option.map_none, Option.bind_none, true_and, and_true, Bool.not_true, Bool.not_false, Nat.reduceLeDiff, Nat.reduceMul, Nat.reduceSub, Nat.le_refl, Int.reduceToNat, Int.reduceLT, Int.reduceLE, Nat.one_mul, Nat.mul_one, e0, w]
      by_cases h2 : a < -9223372036854775808 - b
      · have e2 : decide (a < -9223372036854775808 - b) = true := decide_eq_true h2
        simp only [go_sem, Bool.false_and, new_set, Int.reduceBEq, Int.reduceBNe, Int.reduceNeg, not_true_eq_false, beq_self_eq_true, bne_self_eq_false, Bool.false_eq_true, if_false, if_true, Int.cast_ofNat_Int, decide_true, decide_false, reduceCtorEq, Nat.reduceEqDiff, Nat.reduceAdd, ne_eq, not_false_eq_true, Option.map_some, Option.bind_some, Option.map_none, Option.bind_none, true_and, and_true, Bool.not_true, Bool.not_false, Nat.reduceLeDiff, Nat.reduceMul, Nat.reduceSub, Nat.le_refl, Int.reduceToNat, Int.reduceLT, Int.reduceLE, Nat.one_mul, Nat.mul_one, e2]
        exact .inr (by omega)
      · have e2 : decide (a < -9223372036854775808 - b) = false := decide_eq_false h2
        simp only [go_sem, Bool.false_and, new_set, Int.reduceBEq, Int.reduceBNe, Int.reduceNeg, not_true_eq_false, beq_self_eq_true, bne_self_eq_false, Bool.false_eq_true, if_false, if_true, Int.cast_ofNat_Int, decide_true, decide_false, reduceCtorEq, Nat.reduceEqDiff, Nat.reduceAdd, ne_eq, not_false_eq_true, Option.map_some, Option.bind_some, Option.map_none, Option.bind_none, true_and, and_true, Bool.not_true, Bool.not_false, Nat.reduceLeDiff, Nat.reduceMul, Nat.reduceSub, Nat.le_refl, Int.reduceToNat, Int.reduceLT, Int.reduceLE, Nat.one_mul, Nat.mul_one, e2]
        rw [wrap_i64 (by omega) (by omega)]
        exact .inl (by simp; omega)
    · have e0 : decide (b < 0) = false := decide_eq_false h3
      simp only [go_sem, Bool.false_and, new_set, Int.reduceBEq, Int.reduceBNe, Int.reduceNeg, not_true_eq_false, beq_self_eq_true, bne_self_eq_false, Bool.false_eq_true, if_false, if_true, Int.cast_ofNat_Int, decide_true, decide_false, reduceCtorEq, Nat.reduceEqDiff, Nat.reduceAdd, ne_eq, not_false_eq_true, Option.map_some, Option.bind_some, Option.map_none, Option.bind_none, true_and, and_true, Bool.not_true, Bool.not_false, Nat.reduceLeDiff, Nat.reduceMul, Nat.reduceSub, Nat.le_refl, Int.reduceToNat, Int.reduceLT, Int.reduceLE, Nat.one_mul, Nat.mul_one, e0]
      rw [wrap_i64 (by omega) (by omega)]
      exact .inl (by simp; omega)

theorem totO_drop {l : List Sp} {i : Nat} (hi : i < l.length) {n : Int} : totO n (l.drop i) = if inR (n + l[i].2) then totO (n + l[i].2) (l.drop (i + 1)) else none := by
  rw [List.drop_eq_getElem_cons hi]; rfl

theorem orTotal {l : List Sp} {v : Value} (hs : Sl m 2 l.length (l.flatMap spV) v) (hb : SlLt m v) (hl : l.length < 100000) (hr : ∀ w ∈ l, inR w.2) :
    WC R F.order_Total [v] m fun r m' => ((∃ n, totO 0 l = some n ∧ r = .tuple #[.int .i64 n, .int .i64 0]) ∨ (totO 0 l = none ∧ r = .tuple #[.int .i64 0, .int .i64 5])) ∧ Ext m m' := by
  refine WC.of R.order_Total rfl ?_
  simp only [RC.order_Total, go_sem, Bool.false_and, new_set, Int.reduceBEq, Int.reduceBNe, Int.reduceNeg, not_true_eq_false, beq_self_eq_true, bne_self_eq_false, Bool.false_eq_true, if_false, if_true, Int.cast_ofNat_Int, decide_true, decide_false, reduceCtorEq, Nat.reduceEqDiff, Nat.reduceAdd, ne_eq, not_false_eq_true, Option.map_some, Option.bind_some, Option.map_none, Option.bind_none, true_and, and_true, Bool.not_true, Bool.not_false, Nat.reduceLeDiff, Nat.reduceMul, Nat.reduceSub, Nat.le_refl, Int.reduceToNat, Int.reduceLT, Int.reduceLE, Nat.one_mul, Nat.mul_one, hs.len]
  refine WL.of (fun k e m' => ∃ (i : Nat) (n : Int), i ≤ l.length ∧ k = l.length - i ∧ e = [(4, .int .i64 n), (9, v), (10, .int .i64 l.length), (11, .int .i64 i)] ∧ inR n ∧ totO 0 l = totO n (l.drop i) ∧ Ext m m') l.length
    ⟨0, 0, by omega, by omega, by simp only [go_sem, Bool.false_and, new_set, Int.reduceBEq, Int.reduceBNe, Int.reduceNeg, not_true_eq_false, beq_self_eq_true, bne_self_eq_false, Bool.false_eq_true, if_false, if_true, Int.cast_ofNat_Int, decide_true, decide_false, reduceCtorEq, Nat.reduceEqDiff, Nat.reduceAdd, ne_eq, not_false_eq_true, Option.map_some, Option.bind_some, Option.map_none, Option.bind_none, true_and, and_true, Bool.not_true, Bool.not_false, Nat.reduceLeDiff, Nat.reduceMul, Nat.reduceSub, Nat.le_refl, Int.reduceToNat, Int.reduceLT, Int.reduceLE, Nat.one_mul, Nat.mul_one] <;> rfl, by unfold inR; omega, rfl, Ext.refl _⟩ ?_
  rintro _ _ m1 ⟨i, n, hi, rfl, rfl, hn, ht, hx⟩
  simp only [RB.order_Total_1, go_sem, Bool.false_and, new_set, Int.reduceBEq, Int.reduceBNe, Int.reduceNeg, not_true_eq_false, beq_self_eq_true, bne_self_eq_false, Bool.false_eq_true, if_false, if_true, Int.cast_ofNat_Int, decide_true, decide_false, reduceCtorEq, Nat.reduceEqDiff, Nat.reduceAdd, ne_eq, not_false_eq_true, Option.map_some, Option.bind_some, Option.map_none, Option.bind_none, true_and, and_true, Bool.not_true, Bool.not_false, Nat.reduceLeDiff, Nat.reduceMul, Nat.reduceSub, Nat.le_refl, Int.reduceToNat, Int.reduceLT, Int.reduceLE, Nat.one_mul, Nat.mul_one]
  refine gT.of (fun g1' => ?_) (fun g1' => ?_) <;> (have g1 := g1'; try simp only [decide_eq_true_eq, decide_eq_false_iff_not, beq_iff_eq, bne_iff_ne, beq_eq_false_iff_ne, ne_eq, Bool.not_eq_true', Bool.not_eq_false', bne_eq_false_iff_eq, Int.not_lt, Int.not_le] at g1)
  · have hil : i < l.length := by omega
    have s1 := step1 (show i < 1000000 by omega)
    obtain ⟨p, o, a1, a2, -, -⟩ := (hs.keep hb hx).elem spV_len (k := .i64) hil
    have hri := hr _ (List.getElem_mem hil)
    rw [totO_drop hil] at ht
    simp only [go_sem, Bool.false_and, new_set, Int.reduceBEq, Int.reduceBNe, Int.reduceNeg, not_true_eq_false, beq_self_eq_true, bne_self_eq_false, Bool.false_eq_true, if_false, if_true, Int.cast_ofNat_Int, decide_true, decide_false, reduceCtorEq, Nat.reduceEqDiff, Nat.reduceAdd, ne_eq, not_false_eq_true, Option.map_some, Option.bind_some, Option.map_none, Option.bind_none, true_and, and_true, Bool.not_true, Bool.not_false, Nat.reduceLeDiff, Nat.reduceMul, Nat.reduceSub, Nat.le_refl, Int.reduceToNat, Int.reduceLT, Int.reduceLE, Nat.one_mul, Nat.mul_one, g1', a1, a2]
    generalize l[i] = w at hri ht ⊢
    have hst : aStore 2 (m1.new (.cells [(.int .i64 0), (.int .i64 0)] (some 2))) (.pointer (some ⟨m1.next, 0, none⟩)) (.agg (spV w).toArray) = some (m1.new (.cells [.int .i64 w.1, .int .i64 w.2] (some 2))) := by
      simp only [spV]
      simp only [go_sem, Bool.false_and, new_set, Int.reduceBEq, Int.reduceBNe, Int.reduceNeg, not_true_eq_false, beq_self_eq_true, bne_self_eq_false, Bool.false_eq_true, if_false, if_true, Int.cast_ofNat_Int, decide_true, decide_false, reduceCtorEq, Nat.reduceEqDiff, Nat.reduceAdd, ne_eq, not_false_eq_true, Option.map_some, Option.bind_some, Option.map_none, Option.bind_none, true_and, and_true, Bool.not_true, Bool.not_false, Nat.reduceLeDiff, Nat.reduceMul, Nat.reduceSub, Nat.le_refl, Int.reduceToNat, Int.reduceLT, Int.reduceLE, Nat.one_mul, Nat.mul_one, load_w, load_a, store_b, idxS_b, set_blk, new_blk, set_next, new_next, len_s, ldW_c, ldA_c, stB_c, toArr_one, size_one, toList_toArr, size_toArr, List.length_cons, List.length_nil, List.getElem?_cons_zero, List.getElem?_cons_succ, Nat.zero_add, Nat.add_zero]
    simp only [go_sem, Bool.false_and, new_set, Int.reduceBEq, Int.reduceBNe, Int.reduceNeg, not_true_eq_false, beq_self_eq_true, bne_self_eq_false, Bool.false_eq_true, if_false, if_true, Int.cast_ofNat_Int, decide_true, decide_false, reduceCtorEq, Nat.reduceEqDiff, Nat.reduceAdd, ne_eq, not_false_eq_true, Option.map_some, Option.bind_some, Option.map_none, Option.bind_none, true_and, and_true, Bool.not_true, Bool.not_false, Nat.reduceLeDiff, Nat.reduceMul, Nat.reduceSub, Nat.le_refl, Int.reduceToNat, Int.reduceLT, Int.reduceLE, Nat.one_mul, Nat.mul_one, hst]
    have hxx : Ext m1 (m1.new (.cells [.int .i64 w.1, .int .i64 w.2] (some 2))) := Ext.new
    have hbx : Bk (m1.new (.cells [.int .i64 w.1, .int .i64 w.2] (some 2))) m1.next [.int .i64 w.1, .int .i64 w.2] 2 := Bk.new
    generalize m1.new (.cells [.int .i64 w.1, .int .i64 w.2] (some 2)) = m2 at hbx hxx ⊢
    have c2 : aLoad false 1 m2 (.pointer (some ⟨m1.next, 1, none⟩)) = some (.int .i64 w.2) := by simp only [go_sem, Bool.false_and, new_set, Int.reduceBEq, Int.reduceBNe, Int.reduceNeg, not_true_eq_false, beq_self_eq_true, bne_self_eq_false, Bool.false_eq_true, if_false, if_true, Int.cast_ofNat_Int, decide_true, decide_false, reduceCtorEq, Nat.reduceEqDiff, Nat.reduceAdd, ne_eq, not_false_eq_true, Option.map_some, Option.bind_some, Option.map_none, Option.bind_none, true_and, and_true, Bool.not_true, Bool.not_false, Nat.reduceLeDiff, Nat.reduceMul, Nat.reduceSub, Nat.le_refl, Int.reduceToNat, Int.reduceLT, Int.reduceLE, Nat.one_mul, Nat.mul_one, load_w, load_a, store_b, idxS_b, set_blk, new_blk, set_next, new_next, len_s, ldW_c, ldA_c, stB_c, toArr_one, size_one, toList_toArr, size_toArr, List.length_cons, List.length_nil, List.getElem?_cons_zero, List.getElem?_cons_succ, Nat.zero_add, Nat.add_zero, hbx.at_]
    simp only [go_sem, Bool.false_and, new_set, Int.reduceBEq, Int.reduceBNe, Int.reduceNeg, not_true_eq_false, beq_self_eq_true, bne_self_eq_false, Bool.false_eq_true, if_false, if_true, Int.cast_ofNat_Int, decide_true, decide_false, reduceCtorEq, Nat.reduceEqDiff, Nat.reduceAdd, ne_eq, not_false_eq_true, Option.map_some, Option.bind_some, Option.map_none, Option.bind_none, true_and, and_true, Bool.not_true, Bool.not_false, Nat.reduceLeDiff, Nat.reduceMul, Nat.reduceSub, Nat.le_refl, Int.reduceToNat, Int.reduceLT, Int.reduceLE, Nat.one_mul, Nat.mul_one, c2]
    refine gC.of (fixAdd hn hri) ?_
    rintro _ _ ⟨⟨h1, rfl⟩ | ⟨h1, rfl⟩, hm⟩ <;> subst hm
    · rw [if_pos h1] at ht
      have e0 : ((0 : Int) != 0) = false := rfl
      simp only [go_sem, Bool.false_and, new_set, Int.reduceBEq, Int.reduceBNe, Int.reduceNeg, not_true_eq_false, beq_self_eq_true, bne_self_eq_false, Bool.false_eq_true, if_false, if_true, Int.cast_ofNat_Int, decide_true, decide_false, reduceCtorEq, Nat.reduceEqDiff, Nat.reduceAdd, ne_eq, not_false_eq_true, Option.map_some, Option.bind_some, Option.map_none, Option.bind_none, true_and, and_true, Bool.not_true, Bool.not_false, Nat.reduceLeDiff, Nat.reduceMul, Nat.reduceSub, Nat.le_refl, Int.reduceToNat, Int.reduceLT, Int.reduceLE, Nat.one_mul, Nat.mul_one, aExt0, aExt1, e0, s1]
      exact ⟨l.length - (i + 1), by omega, i + 1, n + w.2, by omega, rfl, rfl, h1, ht, hx.trans hxx⟩
    · rw [if_neg h1] at ht
      have e0 : ((5 : Int) != 0) = true := rfl
      simp only [go_sem, Bool.false_and, new_set, Int.reduceBEq, Int.reduceBNe, Int.reduceNeg, not_true_eq_false, beq_self_eq_true, bne_self_eq_false, Bool.false_eq_true, if_false, if_true, Int.cast_ofNat_Int, decide_true, decide_false, reduceCtorEq, Nat.reduceEqDiff, Nat.reduceAdd, ne_eq, not_false_eq_true, Option.map_some, Option.bind_some, Option.map_none, Option.bind_none, true_and, and_true, Bool.not_true, Bool.not_false, Nat.reduceLeDiff, Nat.reduceMul, Nat.reduceSub, Nat.le_refl, Int.reduceToNat, Int.reduceLT, Int.reduceLE, Nat.one_mul, Nat.mul_one, aExt0, aExt1, e0]
      exact ⟨.inr ht, hx.trans hxx⟩
  · have : i = l.length := by omega
    subst this
    rw [List.drop_length] at ht
    simp only [go_sem, Bool.false_and, new_set, Int.reduceBEq, Int.reduceBNe, Int.reduceNeg, not_true_eq_false, beq_self_eq_true, bne_self_eq_false, Bool.false_eq_true, if_false, if_true, Int.cast_ofNat_Int, decide_true, decide_false, reduceCtorEq, Nat.reduceEqDiff, Nat.reduceAdd, ne_eq, not_false_eq_true, Option.map_some, Option.bind_some, Option.map_none, Option.bind_none, true_and, and_true, Bool.not_true, Bool.not_false, Nat.reduceLeDiff, Nat.reduceMul, Nat.reduceSub, Nat.le_refl, Int.reduceToNat, Int.reduceLT, Int.reduceLE, Nat.one_mul, Nat.mul_one, g1']
    exact ⟨.inl ⟨n, ht, rfl⟩, hx⟩

theorem refTotal {l : List Sp} {v : Value} (hs : Sl m 2 l.length (l.flatMap spV) v) (hl : l.length < 100000) (hr : ∀ w ∈ l, inR w.2) :
    WC R F.ref08_Total [v] m fun r m' => ((∃ n, totO 0 l = some n ∧ r = .tuple #[.int .i64 n, .bool true]) ∨ (totO 0 l = none ∧ r = .tuple #[.int .i64 0, .bool false])) ∧ m' = m := by
  refine WC.of R.ref08_Total rfl ?_
  simp only [RC.ref08_Total, go_sem, Bool.false_and, new_set, Int.reduceBEq, Int.reduceBNe, Int.reduceNeg, not_true_eq_false, beq_self_eq_true, bne_self_eq_false, Bool.false_eq_true, if_false, if_true, Int.cast_ofNat_Int, decide_true, decide_false, reduceCtorEq, Nat.reduceEqDiff, Nat.reduceAdd, ne_eq, not_false_eq_true, Option.map_some, Option.bind_some, Option.map_none, Option.bind_none, true_and, and_true, Bool.not_true, Bool.not_false, Nat.reduceLeDiff, Nat.reduceMul, Nat.reduceSub, Nat.le_refl, Int.reduceToNat, Int.reduceLT, Int.reduceLE, Nat.one_mul, Nat.mul_one]
  refine WL.of (fun k e m' => ∃ (i : Nat) (n : Int), i ≤ l.length ∧ k = l.length - i ∧ m' = m ∧ e = [(0, v), (4, .int .i64 n), (5, .int .i64 i)] ∧ inR n ∧ totO 0 l = totO n (l.drop i)) l.length
    ⟨0, 0, by omega, by omega, rfl, by simp only [go_sem, Bool.false_and, new_set, Int.reduceBEq, Int.reduceBNe, Int.reduceNeg, not_true_eq_false, beq_self_eq_true, bne_self_eq_false, Bool.false_eq_true, if_false, if_true, Int.cast_ofNat_Int, decide_true, decide_false, reduceCtorEq, Nat.reduceEqDiff, Nat.reduceAdd, ne_eq, not_false_eq_true, Option.map_some, Option.bind_some, Option.map_none, Option.bind_none, true_and, and_true, Bool.not_true, Bool.not_false, Nat.reduceLeDiff, Nat.reduceMul, Nat.reduceSub, Nat.le_refl, Int.reduceToNat, Int.reduceLT, Int.reduceLE, Nat.one_mul, Nat.mul_one] <;> rfl, by unfold inR; omega, rfl⟩ ?_
  rintro _ _ _ ⟨i, n, hi, rfl, rfl, rfl, hn, ht⟩
  simp only [RB.ref08_Total_1, go_sem, Bool.false_and, new_set, Int.reduceBEq, Int.reduceBNe, Int.reduceNeg, not_true_eq_false, beq_self_eq_true, bne_self_eq_false, Bool.false_eq_true, if_false, if_true, Int.cast_ofNat_Int, decide_true, decide_false, reduceCtorEq, Nat.reduceEqDiff, Nat.reduceAdd, ne_eq, not_false_eq_true, Option.map_some, Option.bind_some, Option.map_none, Option.bind_none, true_and, and_true, Bool.not_true, Bool.not_false, Nat.reduceLeDiff, Nat.reduceMul, Nat.reduceSub, Nat.le_refl, Int.reduceToNat, Int.reduceLT, Int.reduceLE, Nat.one_mul, Nat.mul_one, hs.len]
  refine gT.of (fun g1' => ?_) (fun g1' => ?_) <;> (have g1 := g1'; try simp only [decide_eq_true_eq, decide_eq_false_iff_not, beq_iff_eq, bne_iff_ne, beq_eq_false_iff_ne, ne_eq, Bool.not_eq_true', Bool.not_eq_false', bne_eq_false_iff_eq, Int.not_lt, Int.not_le] at g1)
  · have hil : i < l.length := by omega
    have s1 := step1 (show i < 1000000 by omega)
    obtain ⟨p, o, a1, -, a3, -⟩ := hs.elem spV_len (k := .i64) hil
    have c2 : aLoad false 1 _ (.pointer (some ⟨p, o + 1, none⟩)) = some (.int .i64 l[i].2) := a3 1 (by omega)
    have hri := hr _ (List.getElem_mem hil)
    rw [totO_drop hil] at ht
    simp only [go_sem, Bool.false_and, new_set, Int.reduceBEq, Int.reduceBNe, Int.reduceNeg, not_true_eq_false, beq_self_eq_true, bne_self_eq_false, Bool.false_eq_true, if_false, if_true, Int.cast_ofNat_Int, decide_true, decide_false, reduceCtorEq, Nat.reduceEqDiff, Nat.reduceAdd, ne_eq, not_false_eq_true, Option.map_some, Option.bind_some, Option.map_none, Option.bind_none, true_and, and_true, Bool.not_true, Bool.not_false, Nat.reduceLeDiff, Nat.reduceMul, Nat.reduceSub, Nat.le_refl, Int.reduceToNat, Int.reduceLT, Int.reduceLE, Nat.one_mul, Nat.mul_one, g1', a1, c2]
    refine gC.of (refAdd hn hri) ?_
    rintro _ _ ⟨⟨h1, rfl⟩ | ⟨h1, rfl⟩, hm⟩ <;> subst hm
    · rw [if_pos h1] at ht
      simp only [go_sem, Bool.false_and, new_set, Int.reduceBEq, Int.reduceBNe, Int.reduceNeg, not_true_eq_false, beq_self_eq_true, bne_self_eq_false, Bool.false_eq_true, if_false, if_true, Int.cast_ofNat_Int, decide_true, decide_false, reduceCtorEq, Nat.reduceEqDiff, Nat.reduceAdd, ne_eq, not_false_eq_true, Option.map_some, Option.bind_some, Option.map_none, Option.bind_none, true_and, and_true, Bool.not_true, Bool.not_false, Nat.reduceLeDiff, Nat.reduceMul, Nat.reduceSub, Nat.le_refl, Int.reduceToNat, Int.reduceLT, Int.reduceLE, Nat.one_mul, Nat.mul_one, aExt0, aExt1, s1]
      exact ⟨l.length - (i + 1), by omega, i + 1, n + l[i].2, by omega, rfl, rfl, h1, ht⟩
    · rw [if_neg h1] at ht
      simp only [go_sem, Bool.false_and, new_set, Int.reduceBEq, Int.reduceBNe, Int.reduceNeg, not_true_eq_false, beq_self_eq_true, bne_self_eq_false, Bool.false_eq_true, if_false, if_true, Int.cast_ofNat_Int, decide_true, decide_false, reduceCtorEq, Nat.reduceEqDiff, Nat.reduceAdd, ne_eq, not_false_eq_true, Option.map_some, Option.bind_some, Option.map_none, Option.bind_none, true_and, and_true, Bool.not_true, Bool.not_false, Nat.reduceLeDiff, Nat.reduceMul, Nat.reduceSub, Nat.le_refl, Int.reduceToNat, Int.reduceLT, Int.reduceLE, Nat.one_mul, Nat.mul_one, aExt0, aExt1]
      exact .inr ht
  · have : i = l.length := by omega
    subst this
    rw [List.drop_length] at ht
    simp only [go_sem, Bool.false_and, new_set, Int.reduceBEq, Int.reduceBNe, Int.reduceNeg, not_true_eq_false, beq_self_eq_true, bne_self_eq_false, Bool.false_eq_true, if_false, if_true, Int.cast_ofNat_Int, decide_true, decide_false, reduceCtorEq, Nat.reduceEqDiff, Nat.reduceAdd, ne_eq, not_false_eq_true, Option.map_some, Option.bind_some, Option.map_none, Option.bind_none, true_and, and_true, Bool.not_true, Bool.not_false, Nat.reduceLeDiff, Nat.reduceMul, Nat.reduceSub, Nat.le_refl, Int.reduceToNat, Int.reduceLT, Int.reduceLE, Nat.one_mul, Nat.mul_one, g1']
    exact .inl ⟨n, ht, rfl⟩
end Go.Am


/- Maps whose keys are whole numbers. -/
set_option linter.unusedVariables false
namespace Go.Am
variable {α : Type}

def mpL (e : α → Value) (L : List (Int × α)) : List (Value × Value) := L.map fun p => (.int .i64 p.1, e p.2)
def lkp : List (Int × α) → Int → Option α
  | [], _ => none
  | (k, a) :: r, x => if k = x then some a else lkp r x
def updL : List (Int × α) → Int → α → List (Int × α)
  | [], x, a => [(x, a)]
  | (k, b) :: r, x, a => if k = x then (x, a) :: r else (k, b) :: updL r x a
def delL : List (Int × α) → Int → List (Int × α)
  | [], _ => []
  | (k, b) :: r, x => if k = x then r else (k, b) :: delL r x

theorem lkp_upd {L : List (Int × α)} {x y : Int} {a : α} : lkp (updL L x a) y = if y = x then some a else lkp L y := by
  induction L with
  | nil => simp only [updL, lkp]; by_cases h : x = y <;> simp [h]; intro e; exact absurd e.symm h
  | cons p r ih =>
    obtain ⟨k, b⟩ := p
    simp only [updL]
    by_cases h : k = x
    · subst h
      simp only [if_true, lkp]
      by_cases g : k = y
      · subst g; simp
      · rw [if_neg g, if_neg (fun e => g e.symm), if_neg g]
    · simp only [h, if_false, lkp]
      by_cases g : k = y
      · subst g; rw [if_pos rfl, if_neg h, if_pos rfl]
      · rw [if_neg g, ih, if_neg g]

theorem findK_mp {e : α → Value} {x : Int} : ∀ (L : List (Int × α)) (i : Nat), (lkp L x = none → findK .int (.int .i64 x) (mpL e L) i = some none ∧ ∀ a, mpL e L ++ [(.int .i64 x, e a)] = mpL e (updL L x a)) ∧
    ∀ a, lkp L x = some a → ∃ j, findK .int (.int .i64 x) (mpL e L) i = some (some (i + j, e a)) ∧ (∀ b, (mpL e L).set j (.int .i64 x, e b) = mpL e (updL L x b)) ∧ (mpL e L).eraseIdx j = mpL e (delL L x)
  | [], i => ⟨fun _ => ⟨rfl, fun a => rfl⟩, fun a h => by simp [lkp] at h⟩
  | (k, b) :: r, i => by
    by_cases h : k = x
    · subst h
      refine ⟨fun h => by simp [lkp] at h, fun a ha => ?_⟩
      simp only [lkp, if_true, Option.some.injEq] at ha
      subst ha
      refine ⟨0, ?_, fun b => ?_, ?_⟩
      · simp [mpL, findK, keyEq]
      · simp [mpL, updL]
      · simp [mpL, delL]
    · have hk : keyEq .int (.int .i64 x) (.int .i64 k) = some false := by simp [keyEq]; exact fun e => h e.symm
      have hf : findK .int (.int .i64 x) (mpL e ((k, b) :: r)) i = findK .int (.int .i64 x) (mpL e r) (i + 1) := by
        show (match keyEq .int (.int .i64 x) (.int .i64 k) with | some true => _ | some false => _ | none => _) = _
        rw [hk]; rfl
      obtain ⟨h1, h2⟩ := findK_mp (e := e) r (i + 1)
      refine ⟨fun hn => ?_, fun a ha => ?_⟩
      · simp only [lkp, h, if_false] at hn
        obtain ⟨g1, g2⟩ := h1 hn
        refine ⟨by rw [hf, g1], fun a => ?_⟩
        simp only [updL, h, if_false]
        show (.int .i64 k, e b) :: (mpL e r ++ _) = _
        rw [g2]; rfl
      · simp only [lkp, h, if_false] at ha
        obtain ⟨j, g1, g2, g3⟩ := h2 a ha
        refine ⟨j + 1, by rw [hf, g1]; congr 3; omega, fun c => ?_, ?_⟩
        · simp only [updL, h, if_false]
          show (.int .i64 k, e b) :: ((mpL e r).set j _) = _
          rw [g2]; rfl
        · simp only [delL, h, if_false]
          show (.int .i64 k, e b) :: ((mpL e r).eraseIdx j) = _
          rw [g3]; rfl

/-- A map that is there. -/
structure Mp (m : Mem) (r : Nat) (e : α → Value) (L : List (Int × α)) : Prop where
  at_ : m.blk r = some (.map (mpL e L))
  lt : r < m.next
theorem Mp.new {m : Mem} {e : α → Value} : Mp (m.new (.map [])) m.next e [] := ⟨by simp [Mem.new, mpL], by simp [Mem.new]⟩
theorem Mp.keep {m m' : Mem} {r : Nat} {e : α → Value} {L : List (Int × α)} (h : Mp m r e L) (hx : Ext m m') : Mp m' r e L := ⟨by rw [hx.same _ h.lt]; exact h.at_, Nat.lt_of_lt_of_le h.lt hx.next⟩
theorem Mp.upd {m m' : Mem} {r : Nat} {e : α → Value} {L : List (Int × α)} {fp : List Nat} (h : Mp m r e L) (hx : Upd m m' fp) (hn : r ∉ fp) : Mp m' r e L := ⟨by rw [hx.same _ h.lt hn]; exact h.at_, Nat.lt_of_lt_of_le h.lt hx.next⟩
theorem Mp.other {m : Mem} {r b : Nat} {e : α → Value} {L : List (Int × α)} {o : Option AObj} (h : Mp m r e L) (hn : r ≠ b) : Mp (m.set b o) r e L := ⟨by simp [Mem.set, hn]; exact h.at_, h.lt⟩
theorem Mp.self {m : Mem} {r : Nat} {e : α → Value} {L L' : List (Int × α)} (h : Mp m r e L) : Mp (m.set r (some (.map (mpL e L')))) r e L' := ⟨by simp [Mem.set], h.lt⟩

theorem Mp.look {m : Mem} {r : Nat} {e : α → Value} {L : List (Int × α)} (h : Mp m r e L) {x : Int} {z : α} : aLook .int (e z) false m (.map (some r)) (.int .i64 x) = some (e ((lkp L x).getD z)) := by
  simp only [aLook, h.at_, Option.bind_some]
  obtain ⟨h1, h2⟩ := findK_mp (e := e) (x := x) L 0
  cases hl : lkp L x with
  | none => rw [(h1 hl).1]; rfl
  | some a =>
    obtain ⟨j, g, -⟩ := h2 a hl
    rw [g]; rfl
theorem Mp.look_ok {m : Mem} {r : Nat} {e : α → Value} {L : List (Int × α)} (h : Mp m r e L) {x : Int} {z : α} : aLook .int (e z) true m (.map (some r)) (.int .i64 x) = some (.tuple #[e ((lkp L x).getD z), .bool (lkp L x).isSome]) := by
  simp only [aLook, h.at_, Option.bind_some]
  obtain ⟨h1, h2⟩ := findK_mp (e := e) (x := x) L 0
  cases hl : lkp L x with
  | none => rw [(h1 hl).1]; rfl
  | some a =>
    obtain ⟨j, g, -⟩ := h2 a hl
    rw [g]; rfl
theorem Mp.put {m : Mem} {r : Nat} {e : α → Value} {L : List (Int × α)} (h : Mp m r e L) {x : Int} {a : α} : aUpd .int m (.map (some r)) (.int .i64 x) (e a) = some (m.set r (some (.map (mpL e (updL L x a))))) := by
  simp only [aUpd, h.at_]
  obtain ⟨h1, h2⟩ := findK_mp (e := e) (x := x) L 0
  cases hl : lkp L x with
  | none => rw [(h1 hl).1]; simp only [Option.map_some]; rw [(h1 hl).2]
  | some b =>
    obtain ⟨j, g, g2, -⟩ := h2 b hl
    rw [g]; simp only [Option.map_some, Nat.zero_add]; rw [g2]
theorem Mp.del {m : Mem} {r : Nat} {e : α → Value} {L : List (Int × α)} (h : Mp m r e L) {x : Int} : ∃ L', L' = (if (lkp L x).isSome then delL L x else L) ∧ ∃ m', aDel .int m (.map (some r)) (.int .i64 x) = some m' ∧ Mp m' r e L' ∧ Upd m m' [r] := by
  refine ⟨_, rfl, ?_⟩
  simp only [aDel, h.at_]
  obtain ⟨h1, h2⟩ := findK_mp (e := e) (x := x) L 0
  cases hl : lkp L x with
  | none => rw [(h1 hl).1]; exact ⟨m, rfl, h, Upd.refl _ _⟩
  | some b =>
    obtain ⟨j, g, -, g3⟩ := h2 b hl
    rw [g]; simp only [Option.map_some, Nat.zero_add]
    rw [g3]
    exact ⟨_, rfl, h.self, Upd.set (by simp)⟩

abbrev vI (n : Int) : Value := .int .i64 n
abbrev vB (b : Bool) : Value := .bool b
end Go.Am


/- OrderW2 over the table of local (relayset.py). -/
set_option linter.unusedVariables false
set_option linter.unusedSimpArgs false
namespace Go.Am
open Classical
variable {m : Mem}

theorem chkF_drop {f : Int} {l : List Sp} {i : Nat} (hi : i < l.length) : chkF f (l.take i) (l.drop i) = if ¬ isU l[i].1 then 20 else if l[i].2 < 1 ∨ f < l[i].2 then 21 else if ∃ p ∈ l.take i, p.1 = l[i].1 then 11 else chkF f (l.take (i + 1)) (l.drop (i + 1)) := by
  rw [List.drop_eq_getElem_cons hi, List.take_succ_eq_append_getElem hi]
  rfl

noncomputable def chkA (f : Int) (l : List Sp) : Int := if f < 2 ∨ 64 < f then 1 else chkF f [] l

theorem refCheck1_loop {l : List Sp} {v : Value} {f : Int} {i : Nat} (hs : Sl m 2 l.length (l.flatMap spV) v) (hl : l.length < 100000) (hil : i < l.length) :
    WL R [0, 1, 5, 6] RB.ref08_Check_1 [(0, .int .i64 f), (1, v), (5, .int .i64 i), (6, .int .i64 0)] m fun x e' m' =>
      m' = m ∧ ((x = .exit 2 ∧ (∃ rest, e' = (0, .int .i64 f) :: (1, v) :: (5, .int .i64 i) :: rest) ∧ ¬ ∃ p ∈ l.take i, p.1 = l[i].1) ∨ (x = .ret ∧ Env.get e' 4 = some (.int .i64 11) ∧ ∃ p ∈ l.take i, p.1 = l[i].1)) := by
  refine WL.of (fun n e m' => ∃ k : Nat, k ≤ i ∧ n = i - k ∧ m' = m ∧ e = [(0, .int .i64 f), (1, v), (5, .int .i64 i), (6, .int .i64 k)] ∧ ¬ ∃ p ∈ l.take k, p.1 = l[i].1) i
    ⟨0, by omega, by omega, rfl, by simp only [go_sem, Bool.false_and, new_set, Int.reduceBEq, Int.reduceBNe, Int.reduceNeg, not_true_eq_false, beq_self_eq_true, bne_self_eq_false, Bool.false_eq_true, if_false, if_true, Int.cast_ofNat_Int, decide_true, decide_false, reduceCtorEq, Nat.reduceEqDiff, Nat.reduceAdd, ne_eq, not_false_eq_true, Option.map_some, Option.bind_some, Option.map_none, Option.bind_none, true_and, and_true, Bool.not_true, Bool.not_false, Nat.reduceLeDiff, Nat.reduceMul, Nat.reduceSub, Nat.le_refl, Int.reduceToNat, Int.reduceLT, Int.reduceLE, Nat.one_mul, Nat.mul_one] <;> rfl, by simp⟩ ?_
  rintro _ _ _ ⟨k, hk, rfl, rfl, rfl, hno⟩
  simp only [RB.ref08_Check_1, go_sem, Bool.false_and, new_set, Int.reduceBEq, Int.reduceBNe, Int.reduceNeg, not_true_eq_false, beq_self_eq_true, bne_self_eq_false, Bool.false_eq_true, if_false, if_true, Int.cast_ofNat_Int, decide_true, decide_false, reduceCtorEq, Nat.reduceEqDiff, Nat.reduceAdd, ne_eq, not_false_eq_true, Option.map_some, Option.bind_some, Option.map_none, Option.bind_none, true_and, and_true, Bool.not_true, Bool.not_false, Nat.reduceLeDiff, Nat.reduceMul, Nat.reduceSub, Nat.le_refl, Int.reduceToNat, Int.reduceLT, Int.reduceLE, Nat.one_mul, Nat.mul_one]
  refine gT.of (fun g1' => ?_) (fun g1' => ?_) <;> (have g1 := g1'; try simp only [decide_eq_true_eq, decide_eq_false_iff_not, beq_iff_eq, bne_iff_ne, beq_eq_false_iff_ne, ne_eq, Bool.not_eq_true', Bool.not_eq_false', bne_eq_false_iff_eq, Int.not_lt, Int.not_le] at g1)
  · have hki : k < i := by omega
    have hkl : k < l.length := by omega
    have s1 := step1 (show k < 1000000 by omega)
    obtain ⟨p, o, a1, -, a3, -⟩ := hs.elem spV_len (k := .i64) hil
    have c1 : aLoad false 1 _ (.pointer (some ⟨p, o + 0, none⟩)) = some (.int .i64 l[i].1) := a3 0 (by omega)
    obtain ⟨p', o', b1, -, b3, -⟩ := hs.elem spV_len (k := .i64) hkl
    have d1 : aLoad false 1 _ (.pointer (some ⟨p', o' + 0, none⟩)) = some (.int .i64 l[k].1) := b3 0 (by omega)
    simp only [go_sem, Bool.false_and, new_set, Int.reduceBEq, Int.reduceBNe, Int.reduceNeg, not_true_eq_false, beq_self_eq_true, bne_self_eq_false, Bool.false_eq_true, if_false, if_true, Int.cast_ofNat_Int, decide_true, decide_false, reduceCtorEq, Nat.reduceEqDiff, Nat.reduceAdd, ne_eq, not_false_eq_true, Option.map_some, Option.bind_some, Option.map_none, Option.bind_none, true_and, and_true, Bool.not_true, Bool.not_false, Nat.reduceLeDiff, Nat.reduceMul, Nat.reduceSub, Nat.le_refl, Int.reduceToNat, Int.reduceLT, Int.reduceLE, Nat.one_mul, Nat.mul_one, g1', a1, b1, c1, d1]
    refine gT.of (fun g2' => ?_) (fun g2' => ?_) <;> (have g2 := g2'; try simp only [decide_eq_true_eq, decide_eq_false_iff_not, beq_iff_eq, bne_iff_ne, beq_eq_false_iff_ne, ne_eq, Bool.not_eq_true', Bool.not_eq_false', bne_eq_false_iff_eq, Int.not_lt, Int.not_le] at g2)
    · simp only [go_sem, Bool.false_and, new_set, Int.reduceBEq, Int.reduceBNe, Int.reduceNeg, not_true_eq_false, beq_self_eq_true, bne_self_eq_false, Bool.false_eq_true, if_false, if_true, Int.cast_ofNat_Int, decide_true, decide_false, reduceCtorEq, Nat.reduceEqDiff, Nat.reduceAdd, ne_eq, not_false_eq_true, Option.map_some, Option.bind_some, Option.map_none, Option.bind_none, true_and, and_true, Bool.not_true, Bool.not_false, Nat.reduceLeDiff, Nat.reduceMul, Nat.reduceSub, Nat.le_refl, Int.reduceToNat, Int.reduceLT, Int.reduceLE, Nat.one_mul, Nat.mul_one, g2']
      refine .inr ?_
      exact ⟨l[k], List.mem_take_iff_getElem.2 ⟨k, by omega, rfl⟩, g2⟩
    · simp only [go_sem, Bool.false_and, new_set, Int.reduceBEq, Int.reduceBNe, Int.reduceNeg, not_true_eq_false, beq_self_eq_true, bne_self_eq_false, Bool.false_eq_true, if_false, if_true, Int.cast_ofNat_Int, decide_true, decide_false, reduceCtorEq, Nat.reduceEqDiff, Nat.reduceAdd, ne_eq, not_false_eq_true, Option.map_some, Option.bind_some, Option.map_none, Option.bind_none, true_and, and_true, Bool.not_true, Bool.not_false, Nat.reduceLeDiff, Nat.reduceMul, Nat.reduceSub, Nat.le_refl, Int.reduceToNat, Int.reduceLT, Int.reduceLE, Nat.one_mul, Nat.mul_one, g2', s1]
      refine ⟨i - (k + 1), by omega, k + 1, by omega, rfl, rfl, ?_⟩
      rw [List.take_succ_eq_append_getElem hkl]
      rintro ⟨p, hp, e⟩
      rcases List.mem_append.1 hp with h | h
      · exact hno ⟨p, h, e⟩
      · rw [List.mem_singleton.1 h] at e; exact g2 e
  · have : k = i := by omega
    subst this
    simp only [go_sem, Bool.false_and, new_set, Int.reduceBEq, Int.reduceBNe, Int.reduceNeg, not_true_eq_false, beq_self_eq_true, bne_self_eq_false, Bool.false_eq_true, if_false, if_true, Int.cast_ofNat_Int, decide_true, decide_false, reduceCtorEq, Nat.reduceEqDiff, Nat.reduceAdd, ne_eq, not_false_eq_true, Option.map_some, Option.bind_some, Option.map_none, Option.bind_none, true_and, and_true, Bool.not_true, Bool.not_false, Nat.reduceLeDiff, Nat.reduceMul, Nat.reduceSub, Nat.le_refl, Int.reduceToNat, Int.reduceLT, Int.reduceLE, Nat.one_mul, Nat.mul_one, g1']
    exact .inl ⟨⟨_, rfl⟩, hno⟩

theorem refCheck {l : List Sp} {v : Value} {f : Int} (hs : Sl m 2 l.length (l.flatMap spV) v) (hl : l.length < 100000) :
    WC R F.ref08_Check [.int .i64 f, v] m fun r m' => r = .int .i64 (chkA f l) ∧ m' = m := by
  refine WC.of R.ref08_Check rfl ?_
  simp only [RC.ref08_Check, go_sem, Bool.false_and, new_set, Int.reduceBEq, Int.reduceBNe, Int.reduceNeg, not_true_eq_false, beq_self_eq_true, bne_self_eq_false, Bool.false_eq_true, if_false, if_true, Int.cast_ofNat_Int, decide_true, decide_false, reduceCtorEq, Nat.reduceEqDiff, Nat.reduceAdd, ne_eq, not_false_eq_true, Option.map_some, Option.bind_some, Option.map_none, Option.bind_none, true_and, and_true, Bool.not_true, Bool.not_false, Nat.reduceLeDiff, Nat.reduceMul, Nat.reduceSub, Nat.le_refl, Int.reduceToNat, Int.reduceLT, Int.reduceLE, Nat.one_mul, Nat.mul_one]
  by_cases h1 : f < 2
  · have e1 : decide (f < 2) = true := decide_eq_true h1
    simp only [go_sem, Bool.false_and, new_set, Int.reduceBEq, Int.reduceBNe, Int.reduceNeg, not_true_eq_false, beq_self_eq_true, bne_self_eq_false, Bool.false_eq_true, if_false, if_true, Int.cast_ofNat_Int, decide_true, decide_false, reduceCtorEq, Nat.reduceEqDiff, Nat.reduceAdd, ne_eq, not_false_eq_true, Option.map_some, Option.bind_some, Option.map_none, Option.bind_none, true_and, and_true, Bool.not_true, Bool.not_false, Nat.reduceLeDiff, Nat.reduceMul, Nat.reduceSub, Nat.le_refl, Int.reduceToNat, Int.reduceLT, Int.reduceLE, Nat.one_mul, Nat.mul_one, e1]
    rw [chkA, if_pos (.inl h1)]
  · have e1 : decide (f < 2) = false := decide_eq_false h1
    simp only [go_sem, Bool.false_and, new_set, Int.reduceBEq, Int.reduceBNe, Int.reduceNeg, not_true_eq_false, beq_self_eq_true, bne_self_eq_false, Bool.false_eq_true, if_false, if_true, Int.cast_ofNat_Int, decide_true, decide_false, reduceCtorEq, Nat.reduceEqDiff, Nat.reduceAdd, ne_eq, not_false_eq_true, Option.map_some, Option.bind_some, Option.map_none, Option.bind_none, true_and, and_true, Bool.not_true, Bool.not_false, Nat.reduceLeDiff, Nat.reduceMul, Nat.reduceSub, Nat.le_refl, Int.reduceToNat, Int.reduceLT, Int.reduceLE, Nat.one_mul, Nat.mul_one, e1]
    by_cases h2 : 64 < f
    · have e2 : decide (64 < f) = true := decide_eq_true h2
      simp only [go_sem, Bool.false_and, new_set, Int.reduceBEq, Int.reduceBNe, Int.reduceNeg, not_true_eq_false, beq_self_eq_true, bne_self_eq_false, Bool.false_eq_true, if_false, if_true, Int.cast_ofNat_Int, decide_true, decide_false, reduceCtorEq, Nat.reduceEqDiff, Nat.reduceAdd, ne_eq, not_false_eq_true, Option.map_some, Option.bind_some, Option.map_none, Option.bind_none, true_and, and_true, Bool.not_true, Bool.not_false, Nat.reduceLeDiff, Nat.reduceMul, Nat.reduceSub, Nat.le_refl, Int.reduceToNat, Int.reduceLT, Int.reduceLE, Nat.one_mul, Nat.mul_one, e2]
      rw [chkA, if_pos (.inr h2)]
    · have e2 : decide (64 < f) = false := decide_eq_false h2
      have hA : chkA f l = chkF f [] l := by rw [chkA, if_neg (by omega)]
      simp only [go_sem, Bool.false_and, new_set, Int.reduceBEq, Int.reduceBNe, Int.reduceNeg, not_true_eq_false, beq_self_eq_true, bne_self_eq_false, Bool.false_eq_true, if_false, if_true, Int.cast_ofNat_Int, decide_true, decide_false, reduceCtorEq, Nat.reduceEqDiff, Nat.reduceAdd, ne_eq, not_false_eq_true, Option.map_some, Option.bind_some, Option.map_none, Option.bind_none, true_and, and_true, Bool.not_true, Bool.not_false, Nat.reduceLeDiff, Nat.reduceMul, Nat.reduceSub, Nat.le_refl, Int.reduceToNat, Int.reduceLT, Int.reduceLE, Nat.one_mul, Nat.mul_one, e2]
      rw [hA]
      refine WL.of (fun n e m' => ∃ i : Nat, i ≤ l.length ∧ n = l.length - i ∧ m' = m ∧ e = [(0, .int .i64 f), (1, v), (5, .int .i64 i)] ∧ chkF f [] l = chkF f (l.take i) (l.drop i)) l.length
        ⟨0, by omega, by omega, rfl, by simp only [go_sem, Bool.false_and, new_set, Int.reduceBEq, Int.reduceBNe, Int.reduceNeg, not_true_eq_false, beq_self_eq_true, bne_self_eq_false, Bool.false_eq_true, if_false, if_true, Int.cast_ofNat_Int, decide_true, decide_false, reduceCtorEq, Nat.reduceEqDiff, Nat.reduceAdd, ne_eq, not_false_eq_true, Option.map_some, Option.bind_some, Option.map_none, Option.bind_none, true_and, and_true, Bool.not_true, Bool.not_false, Nat.reduceLeDiff, Nat.reduceMul, Nat.reduceSub, Nat.le_refl, Int.reduceToNat, Int.reduceLT, Int.reduceLE, Nat.one_mul, Nat.mul_one] <;> rfl, rfl⟩ ?_
      rintro _ _ _ ⟨i, hi, rfl, rfl, rfl, hc⟩
      simp only [RB.ref08_Check_2, go_sem, Bool.false_and, new_set, Int.reduceBEq, Int.reduceBNe, Int.reduceNeg, not_true_eq_false, beq_self_eq_true, bne_self_eq_false, Bool.false_eq_true, if_false, if_true, Int.cast_ofNat_Int, decide_true, decide_false, reduceCtorEq, Nat.reduceEqDiff, Nat.reduceAdd, ne_eq, not_false_eq_true, Option.map_some, Option.bind_some, Option.map_none, Option.bind_none, true_and, and_true, Bool.not_true, Bool.not_false, Nat.reduceLeDiff, Nat.reduceMul, Nat.reduceSub, Nat.le_refl, Int.reduceToNat, Int.reduceLT, Int.reduceLE, Nat.one_mul, Nat.mul_one, hs.len]
      refine gT.of (fun g1' => ?_) (fun g1' => ?_) <;> (have g1 := g1'; try simp only [decide_eq_true_eq, decide_eq_false_iff_not, beq_iff_eq, bne_iff_ne, beq_eq_false_iff_ne, ne_eq, Bool.not_eq_true', Bool.not_eq_false', bne_eq_false_iff_eq, Int.not_lt, Int.not_le] at g1)
      · have hil : i < l.length := by omega
        have s1 := step1 (show i < 1000000 by omega)
        obtain ⟨p, o, a1, -, a3, -⟩ := hs.elem spV_len (k := .i64) hil
        have c1 : aLoad false 1 _ (.pointer (some ⟨p, o + 0, none⟩)) = some (.int .i64 l[i].1) := a3 0 (by omega)
        have c2 : aLoad false 1 _ (.pointer (some ⟨p, o + 1, none⟩)) = some (.int .i64 l[i].2) := a3 1 (by omega)
        rw [chkF_drop hil] at hc
        simp only [go_sem, Bool.false_and, new_set, Int.reduceBEq, Int.reduceBNe, Int.reduceNeg, not_true_eq_false, beq_self_eq_true, bne_self_eq_false, Bool.false_eq_true, if_false, if_true, Int.cast_ofNat_Int, decide_true, decide_false, reduceCtorEq, Nat.reduceEqDiff, Nat.reduceAdd, ne_eq, not_false_eq_true, Option.map_some, Option.bind_some, Option.map_none, Option.bind_none, true_and, and_true, Bool.not_true, Bool.not_false, Nat.reduceLeDiff, Nat.reduceMul, Nat.reduceSub, Nat.le_refl, Int.reduceToNat, Int.reduceLT, Int.reduceLE, Nat.one_mul, Nat.mul_one, g1', a1, c1]
        refine gC.of Is_spec ?_
        rintro _ _ ⟨⟨rfl, hu⟩ | ⟨rfl, hu⟩, hm⟩ <;> subst hm
        · rw [if_neg (by simpa using hu)] at hc
          simp only [go_sem, Bool.false_and, new_set, Int.reduceBEq, Int.reduceBNe, Int.reduceNeg, not_true_eq_false, beq_self_eq_true, bne_self_eq_false, Bool.false_eq_true, if_false, if_true, Int.cast_ofNat_Int, decide_true, decide_false, reduceCtorEq, Nat.reduceEqDiff, Nat.reduceAdd, ne_eq, not_false_eq_true, Option.map_some, Option.bind_some, Option.map_none, Option.bind_none, true_and, and_true, Bool.not_true, Bool.not_false, Nat.reduceLeDiff, Nat.reduceMul, Nat.reduceSub, Nat.le_refl, Int.reduceToNat, Int.reduceLT, Int.reduceLE, Nat.one_mul, Nat.mul_one, a1, c2]
          by_cases h3 : l[i].2 < 1
          · have e3 : decide (l[i].2 < 1) = true := decide_eq_true h3
            rw [if_pos (.inl h3)] at hc
            simp only [go_sem, Bool.false_and, new_set, Int.reduceBEq, Int.reduceBNe, Int.reduceNeg, not_true_eq_false, beq_self_eq_true, bne_self_eq_false, Bool.false_eq_true, if_false, if_true, Int.cast_ofNat_Int, decide_true, decide_false, reduceCtorEq, Nat.reduceEqDiff, Nat.reduceAdd, ne_eq, not_false_eq_true, Option.map_some, Option.bind_some, Option.map_none, Option.bind_none, true_and, and_true, Bool.not_true, Bool.not_false, Nat.reduceLeDiff, Nat.reduceMul, Nat.reduceSub, Nat.le_refl, Int.reduceToNat, Int.reduceLT, Int.reduceLE, Nat.one_mul, Nat.mul_one, e3]
            rw [hc]
          · have e3 : decide (l[i].2 < 1) = false := decide_eq_false h3
            simp only [go_sem, Bool.false_and, new_set, Int.reduceBEq, Int.reduceBNe, Int.reduceNeg, not_true_eq_false, beq_self_eq_true, bne_self_eq_false, Bool.false_eq_true, if_false, if_true, Int.cast_ofNat_Int, decide_true, decide_false, reduceCtorEq, Nat.reduceEqDiff, Nat.reduceAdd, ne_eq, not_false_eq_true, Option.map_some, Option.bind_some, Option.map_none, Option.bind_none, true_and, and_true, Bool.not_true, Bool.not_false, Nat.reduceLeDiff, Nat.reduceMul, Nat.reduceSub, Nat.le_refl, Int.reduceToNat, Int.reduceLT, Int.reduceLE, Nat.one_mul, Nat.mul_one, e3, a1, c2]
            by_cases h4 : f < l[i].2
            · have e4 : decide (f < l[i].2) = true := decide_eq_true h4
              rw [if_pos (.inr h4)] at hc
              simp only [go_sem, Bool.false_and, new_set, Int.reduceBEq, Int.reduceBNe, Int.reduceNeg, not_true_eq_false, beq_self_eq_true, bne_self_eq_false, Bool.false_eq_true, if_false, if_true, Int.cast_ofNat_Int, decide_true, decide_false, reduceCtorEq, Nat.reduceEqDiff, Nat.reduceAdd, ne_eq, not_false_eq_true, Option.map_some, Option.bind_some, Option.map_none, Option.bind_none, true_and, and_true, Bool.not_true, Bool.not_false, Nat.reduceLeDiff, Nat.reduceMul, Nat.reduceSub, Nat.le_refl, Int.reduceToNat, Int.reduceLT, Int.reduceLE, Nat.one_mul, Nat.mul_one, e4]
              rw [hc]
            · have e4 : decide (f < l[i].2) = false := decide_eq_false h4
              rw [if_neg (by omega)] at hc
              simp only [go_sem, Bool.false_and, new_set, Int.reduceBEq, Int.reduceBNe, Int.reduceNeg, not_true_eq_false, beq_self_eq_true, bne_self_eq_false, Bool.false_eq_true, if_false, if_true, Int.cast_ofNat_Int, decide_true, decide_false, reduceCtorEq, Nat.reduceEqDiff, Nat.reduceAdd, ne_eq, not_false_eq_true, Option.map_some, Option.bind_some, Option.map_none, Option.bind_none, true_and, and_true, Bool.not_true, Bool.not_false, Nat.reduceLeDiff, Nat.reduceMul, Nat.reduceSub, Nat.le_refl, Int.reduceToNat, Int.reduceLT, Int.reduceLE, Nat.one_mul, Nat.mul_one, e4]
              refine WL.mono (refCheck1_loop (f := f) hs hl hil) ?_
              rintro x e' m' ⟨rfl, ⟨rfl, ⟨rest, rfl⟩, hno⟩ | ⟨rfl, h4, hyes⟩⟩
              · rw [if_neg hno] at hc
                simp only [go_sem, Bool.false_and, new_set, Int.reduceBEq, Int.reduceBNe, Int.reduceNeg, not_true_eq_false, beq_self_eq_true, bne_self_eq_false, Bool.false_eq_true, if_false, if_true, Int.cast_ofNat_Int, decide_true, decide_false, reduceCtorEq, Nat.reduceEqDiff, Nat.reduceAdd, ne_eq, not_false_eq_true, Option.map_some, Option.bind_some, Option.map_none, Option.bind_none, true_and, and_true, Bool.not_true, Bool.not_false, Nat.reduceLeDiff, Nat.reduceMul, Nat.reduceSub, Nat.le_refl, Int.reduceToNat, Int.reduceLT, Int.reduceLE, Nat.one_mul, Nat.mul_one, s1]
                exact ⟨l.length - (i + 1), by omega, i + 1, by omega, rfl, rfl, hc⟩
              · rw [if_pos hyes] at hc
                simp only [go_sem, Bool.false_and, new_set, Int.reduceBEq, Int.reduceBNe, Int.reduceNeg, not_true_eq_false, beq_self_eq_true, bne_self_eq_false, Bool.false_eq_true, if_false, if_true, Int.cast_ofNat_Int, decide_true, decide_false, reduceCtorEq, Nat.reduceEqDiff, Nat.reduceAdd, ne_eq, not_false_eq_true, Option.map_some, Option.bind_some, Option.map_none, Option.bind_none, true_and, and_true, Bool.not_true, Bool.not_false, Nat.reduceLeDiff, Nat.reduceMul, Nat.reduceSub, Nat.le_refl, Int.reduceToNat, Int.reduceLT, Int.reduceLE, Nat.one_mul, Nat.mul_one, h4]
                rw [hc]
        · rw [if_pos hu] at hc
          simp only [go_sem, Bool.false_and, new_set, Int.reduceBEq, Int.reduceBNe, Int.reduceNeg, not_true_eq_false, beq_self_eq_true, bne_self_eq_false, Bool.false_eq_true, if_false, if_true, Int.cast_ofNat_Int, decide_true, decide_false, reduceCtorEq, Nat.reduceEqDiff, Nat.reduceAdd, ne_eq, not_false_eq_true, Option.map_some, Option.bind_some, Option.map_none, Option.bind_none, true_and, and_true, Bool.not_true, Bool.not_false, Nat.reduceLeDiff, Nat.reduceMul, Nat.reduceSub, Nat.le_refl, Int.reduceToNat, Int.reduceLT, Int.reduceLE, Nat.one_mul, Nat.mul_one]
          rw [hc]
      · have : i = l.length := by omega
        subst this
        rw [List.drop_length] at hc
        simp only [go_sem, Bool.false_and, new_set, Int.reduceBEq, Int.reduceBNe, Int.reduceNeg, not_true_eq_false, beq_self_eq_true, bne_self_eq_false, Bool.false_eq_true, if_false, if_true, Int.cast_ofNat_Int, decide_true, decide_false, reduceCtorEq, Nat.reduceEqDiff, Nat.reduceAdd, ne_eq, not_false_eq_true, Option.map_some, Option.bind_some, Option.map_none, Option.bind_none, true_and, and_true, Bool.not_true, Bool.not_false, Nat.reduceLeDiff, Nat.reduceMul, Nat.reduceSub, Nat.le_refl, Int.reduceToNat, Int.reduceLT, Int.reduceLE, Nat.one_mul, Nat.mul_one, g1']
        rw [hc]; rfl

theorem st0 {M : Mem} : aStore 0 (M.new (.cells [] (some 0))) (.pointer (some ⟨M.next, 0, none⟩)) (.agg #[]) = some (M.new (.cells [] (some 0))) := by
  have e : (#[] : Array Value) = [].toArray := rfl
  rw [e]
  simp only [go_sem, Bool.false_and, new_set, Int.reduceBEq, Int.reduceBNe, Int.reduceNeg, not_true_eq_false, beq_self_eq_true, bne_self_eq_false, Bool.false_eq_true, if_false, if_true, Int.cast_ofNat_Int, decide_true, decide_false, reduceCtorEq, Nat.reduceEqDiff, Nat.reduceAdd, ne_eq, not_false_eq_true, Option.map_some, Option.bind_some, Option.map_none, Option.bind_none, true_and, and_true, Bool.not_true, Bool.not_false, Nat.reduceLeDiff, Nat.reduceMul, Nat.reduceSub, Nat.le_refl, Int.reduceToNat, Int.reduceLT, Int.reduceLE, Nat.one_mul, Nat.mul_one, load_w, load_a, store_b, idxS_b, set_blk, new_blk, set_next, new_next, len_s, ldW_c, ldA_c, stB_c, toArr_one, size_one, toList_toArr, size_toArr, List.length_cons, List.length_nil, List.getElem?_cons_zero, List.getElem?_cons_succ, Nat.zero_add, Nat.add_zero]
def vU (_ : Unit) : Value := .agg #[]

set_option maxHeartbeats 2000000 in
theorem orCheck {l : List Sp} {v : Value} {f : Int} (hs : Sl m 2 l.length (l.flatMap spV) v) (hb : SlLt m v) (hl : l.length < 100000) :
    WC R F.order_Check [.int .i64 f, v] m fun r m' => r = .int .i64 (chkA f l) ∧ Ext m m' := by
  refine WC.of R.order_Check rfl ?_
  simp only [RC.order_Check, go_sem, Bool.false_and, new_set, Int.reduceBEq, Int.reduceBNe, Int.reduceNeg, not_true_eq_false, beq_self_eq_true, bne_self_eq_false, Bool.false_eq_true, if_false, if_true, Int.cast_ofNat_Int, decide_true, decide_false, reduceCtorEq, Nat.reduceEqDiff, Nat.reduceAdd, ne_eq, not_false_eq_true, Option.map_some, Option.bind_some, Option.map_none, Option.bind_none, true_and, and_true, Bool.not_true, Bool.not_false, Nat.reduceLeDiff, Nat.reduceMul, Nat.reduceSub, Nat.le_refl, Int.reduceToNat, Int.reduceLT, Int.reduceLE, Nat.one_mul, Nat.mul_one]
  by_cases h1 : f < 2
  · have e1 : decide (f < 2) = true := decide_eq_true h1
    simp only [go_sem, Bool.false_and, new_set, Int.reduceBEq, Int.reduceBNe, Int.reduceNeg, not_true_eq_false, beq_self_eq_true, bne_self_eq_false, Bool.false_eq_true, if_false, if_true, Int.cast_ofNat_Int, decide_true, decide_false, reduceCtorEq, Nat.reduceEqDiff, Nat.reduceAdd, ne_eq, not_false_eq_true, Option.map_some, Option.bind_some, Option.map_none, Option.bind_none, true_and, and_true, Bool.not_true, Bool.not_false, Nat.reduceLeDiff, Nat.reduceMul, Nat.reduceSub, Nat.le_refl, Int.reduceToNat, Int.reduceLT, Int.reduceLE, Nat.one_mul, Nat.mul_one, e1]
    rw [chkA, if_pos (.inl h1)]
    exact ⟨rfl, Ext.refl _⟩
  · have e1 : decide (f < 2) = false := decide_eq_false h1
    simp only [go_sem, Bool.false_and, new_set, Int.reduceBEq, Int.reduceBNe, Int.reduceNeg, not_true_eq_false, beq_self_eq_true, bne_self_eq_false, Bool.false_eq_true, if_false, if_true, Int.cast_ofNat_Int, decide_true, decide_false, reduceCtorEq, Nat.reduceEqDiff, Nat.reduceAdd, ne_eq, not_false_eq_true, Option.map_some, Option.bind_some, Option.map_none, Option.bind_none, true_and, and_true, Bool.not_true, Bool.not_false, Nat.reduceLeDiff, Nat.reduceMul, Nat.reduceSub, Nat.le_refl, Int.reduceToNat, Int.reduceLT, Int.reduceLE, Nat.one_mul, Nat.mul_one, e1]
    by_cases h2 : 64 < f
    · have e2 : decide (64 < f) = true := decide_eq_true h2
      simp only [go_sem, Bool.false_and, new_set, Int.reduceBEq, Int.reduceBNe, Int.reduceNeg, not_true_eq_false, beq_self_eq_true, bne_self_eq_false, Bool.false_eq_true, if_false, if_true, Int.cast_ofNat_Int, decide_true, decide_false, reduceCtorEq, Nat.reduceEqDiff, Nat.reduceAdd, ne_eq, not_false_eq_true, Option.map_some, Option.bind_some, Option.map_none, Option.bind_none, true_and, and_true, Bool.not_true, Bool.not_false, Nat.reduceLeDiff, Nat.reduceMul, Nat.reduceSub, Nat.le_refl, Int.reduceToNat, Int.reduceLT, Int.reduceLE, Nat.one_mul, Nat.mul_one, e2]
      rw [chkA, if_pos (.inr h2)]
      exact ⟨rfl, Ext.refl _⟩
    · have e2 : decide (64 < f) = false := decide_eq_false h2
      have hA : chkA f l = chkF f [] l := by rw [chkA, if_neg (by omega)]
      simp only [go_sem, Bool.false_and, new_set, Int.reduceBEq, Int.reduceBNe, Int.reduceNeg, not_true_eq_false, beq_self_eq_true, bne_self_eq_false, Bool.false_eq_true, if_false, if_true, Int.cast_ofNat_Int, decide_true, decide_false, reduceCtorEq, Nat.reduceEqDiff, Nat.reduceAdd, ne_eq, not_false_eq_true, Option.map_some, Option.bind_some, Option.map_none, Option.bind_none, true_and, and_true, Bool.not_true, Bool.not_false, Nat.reduceLeDiff, Nat.reduceMul, Nat.reduceSub, Nat.le_refl, Int.reduceToNat, Int.reduceLT, Int.reduceLE, Nat.one_mul, Nat.mul_one, e2, hs.len]
      rw [hA]
      have hx1 : Ext m (m.new (.map [])) := Ext.new
      have hM1 : Mp (m.new (.map [])) m.next vU [] := Mp.new
      have hn1 : (m.new (.map [])).next = m.next + 1 := rfl
      generalize m.new (.map []) = m1 at hx1 hM1 hn1 ⊢
      refine WL.of (fun n e m' => ∃ (i : Nat) (L : List (Int × Unit)), i ≤ l.length ∧ n = l.length - i ∧ e = [(0, .int .i64 f), (5, .map (some m.next)), (20, v), (21, .int .i64 l.length), (22, .int .i64 i)] ∧ chkF f [] l = chkF f (l.take i) (l.drop i) ∧
          Mp m' m.next vU L ∧ (∀ u, (lkp L u).isSome = decide (∃ p ∈ l.take i, p.1 = u)) ∧ Ext m m') l.length
        ⟨0, [], by omega, by omega, by simp only [go_sem, Bool.false_and, new_set, Int.reduceBEq, Int.reduceBNe, Int.reduceNeg, not_true_eq_false, beq_self_eq_true, bne_self_eq_false, Bool.false_eq_true, if_false, if_true, Int.cast_ofNat_Int, decide_true, decide_false, reduceCtorEq, Nat.reduceEqDiff, Nat.reduceAdd, ne_eq, not_false_eq_true, Option.map_some, Option.bind_some, Option.map_none, Option.bind_none, true_and, and_true, Bool.not_true, Bool.not_false, Nat.reduceLeDiff, Nat.reduceMul, Nat.reduceSub, Nat.le_refl, Int.reduceToNat, Int.reduceLT, Int.reduceLE, Nat.one_mul, Nat.mul_one] <;> rfl, rfl, hM1, fun u => by simp [lkp], hx1⟩ ?_
      rintro _ _ m2 ⟨i, L, hi, rfl, rfl, hc, hM, hL, hx⟩
      simp only [RB.order_Check_1, go_sem, Bool.false_and, new_set, Int.reduceBEq, Int.reduceBNe, Int.reduceNeg, not_true_eq_false, beq_self_eq_true, bne_self_eq_false, Bool.false_eq_true, if_false, if_true, Int.cast_ofNat_Int, decide_true, decide_false, reduceCtorEq, Nat.reduceEqDiff, Nat.reduceAdd, ne_eq, not_false_eq_true, Option.map_some, Option.bind_some, Option.map_none, Option.bind_none, true_and, and_true, Bool.not_true, Bool.not_false, Nat.reduceLeDiff, Nat.reduceMul, Nat.reduceSub, Nat.le_refl, Int.reduceToNat, Int.reduceLT, Int.reduceLE, Nat.one_mul, Nat.mul_one]
      refine gT.of (fun g1' => ?_) (fun g1' => ?_) <;> (have g1 := g1'; try simp only [decide_eq_true_eq, decide_eq_false_iff_not, beq_iff_eq, bne_iff_ne, beq_eq_false_iff_ne, ne_eq, Bool.not_eq_true', Bool.not_eq_false', bne_eq_false_iff_eq, Int.not_lt, Int.not_le] at g1)
      · have hil : i < l.length := by omega
        have s1 := step1 (show i < 1000000 by omega)
        obtain ⟨p, o, a1, a2, -, -⟩ := (hs.keep hb hx).elem spV_len (k := .i64) hil
        rw [chkF_drop hil] at hc
        have htk : l.take (i + 1) = l.take i ++ [l[i]] := List.take_succ_eq_append_getElem hil
        simp only [go_sem, Bool.false_and, new_set, Int.reduceBEq, Int.reduceBNe, Int.reduceNeg, not_true_eq_false, beq_self_eq_true, bne_self_eq_false, Bool.false_eq_true, if_false, if_true, Int.cast_ofNat_Int, decide_true, decide_false, reduceCtorEq, Nat.reduceEqDiff, Nat.reduceAdd, ne_eq, not_false_eq_true, Option.map_some, Option.bind_some, Option.map_none, Option.bind_none, true_and, and_true, Bool.not_true, Bool.not_false, Nat.reduceLeDiff, Nat.reduceMul, Nat.reduceSub, Nat.le_refl, Int.reduceToNat, Int.reduceLT, Int.reduceLE, Nat.one_mul, Nat.mul_one, g1', a1, a2]
        generalize l[i] = w at hc htk ⊢
        have hst : aStore 2 (m2.new (.cells [(.int .i64 0), (.int .i64 0)] (some 2))) (.pointer (some ⟨m2.next, 0, none⟩)) (.agg (spV w).toArray) = some (m2.new (.cells [.int .i64 w.1, .int .i64 w.2] (some 2))) := by
          simp only [spV]
          simp only [go_sem, Bool.false_and, new_set, Int.reduceBEq, Int.reduceBNe, Int.reduceNeg, not_true_eq_false, beq_self_eq_true, bne_self_eq_false, Bool.false_eq_true, if_false, if_true, Int.cast_ofNat_Int, decide_true, decide_false, reduceCtorEq, Nat.reduceEqDiff, Nat.reduceAdd, ne_eq, not_false_eq_true, Option.map_some, Option.bind_some, Option.map_none, Option.bind_none, true_and, and_true, Bool.not_true, Bool.not_false, Nat.reduceLeDiff, Nat.reduceMul, Nat.reduceSub, Nat.le_refl, Int.reduceToNat, Int.reduceLT, Int.reduceLE, Nat.one_mul, Nat.mul_one, load_w, load_a, store_b, idxS_b, set_blk, new_blk, set_next, new_next, len_s, ldW_c, ldA_c, stB_c, toArr_one, size_one, toList_toArr, size_toArr, List.length_cons, List.length_nil, List.getElem?_cons_zero, List.getElem?_cons_succ, Nat.zero_add, Nat.add_zero]
        simp only [go_sem, Bool.false_and, new_set, Int.reduceBEq, Int.reduceBNe, Int.reduceNeg, not_true_eq_false, beq_self_eq_true, bne_self_eq_false, Bool.false_eq_true, if_false, if_true, Int.cast_ofNat_Int, decide_true, decide_false, reduceCtorEq, Nat.reduceEqDiff, Nat.reduceAdd, ne_eq, not_false_eq_true, Option.map_some, Option.bind_some, Option.map_none, Option.bind_none, true_and, and_true, Bool.not_true, Bool.not_false, Nat.reduceLeDiff, Nat.reduceMul, Nat.reduceSub, Nat.le_refl, Int.reduceToNat, Int.reduceLT, Int.reduceLE, Nat.one_mul, Nat.mul_one, hst]
        have hxx : Ext m2 (m2.new (.cells [.int .i64 w.1, .int .i64 w.2] (some 2))) := Ext.new
        have hbx : Bk (m2.new (.cells [.int .i64 w.1, .int .i64 w.2] (some 2))) m2.next [.int .i64 w.1, .int .i64 w.2] 2 := Bk.new
        have hqm : m2.next ≠ m.next := by have := hM.lt; omega
        have hM3 := hM.keep hxx
        generalize m2.new (.cells [.int .i64 w.1, .int .i64 w.2] (some 2)) = m3 at hbx hxx hM3 ⊢
        have c1 : aLoad false 1 m3 (.pointer (some ⟨m2.next, 0, none⟩)) = some (.int .i64 w.1) := by simp only [go_sem, Bool.false_and, new_set, Int.reduceBEq, Int.reduceBNe, Int.reduceNeg, not_true_eq_false, beq_self_eq_true, bne_self_eq_false, Bool.false_eq_true, if_false, if_true, Int.cast_ofNat_Int, decide_true, decide_false, reduceCtorEq, Nat.reduceEqDiff, Nat.reduceAdd, ne_eq, not_false_eq_true, Option.map_some, Option.bind_some, Option.map_none, Option.bind_none, true_and, and_true, Bool.not_true, Bool.not_false, Nat.reduceLeDiff, Nat.reduceMul, Nat.reduceSub, Nat.le_refl, Int.reduceToNat, Int.reduceLT, Int.reduceLE, Nat.one_mul, Nat.mul_one, load_w, load_a, store_b, idxS_b, set_blk, new_blk, set_next, new_next, len_s, ldW_c, ldA_c, stB_c, toArr_one, size_one, toList_toArr, size_toArr, List.length_cons, List.length_nil, List.getElem?_cons_zero, List.getElem?_cons_succ, Nat.zero_add, Nat.add_zero, hbx.at_]
        have c2 : aLoad false 1 m3 (.pointer (some ⟨m2.next, 1, none⟩)) = some (.int .i64 w.2) := by simp only [go_sem, Bool.false_and, new_set, Int.reduceBEq, Int.reduceBNe, Int.reduceNeg, not_true_eq_false, beq_self_eq_true, bne_self_eq_false, Bool.false_eq_true, if_false, if_true, Int.cast_ofNat_Int, decide_true, decide_false, reduceCtorEq, Nat.reduceEqDiff, Nat.reduceAdd, ne_eq, not_false_eq_true, Option.map_some, Option.bind_some, Option.map_none, Option.bind_none, true_and, and_true, Bool.not_true, Bool.not_false, Nat.reduceLeDiff, Nat.reduceMul, Nat.reduceSub, Nat.le_refl, Int.reduceToNat, Int.reduceLT, Int.reduceLE, Nat.one_mul, Nat.mul_one, load_w, load_a, store_b, idxS_b, set_blk, new_blk, set_next, new_next, len_s, ldW_c, ldA_c, stB_c, toArr_one, size_one, toList_toArr, size_toArr, List.length_cons, List.length_nil, List.getElem?_cons_zero, List.getElem?_cons_succ, Nat.zero_add, Nat.add_zero, hbx.at_]
        have hx3 := hx.trans hxx
        simp only [go_sem, Bool.false_and, new_set, Int.reduceBEq, Int.reduceBNe, Int.reduceNeg, not_true_eq_false, beq_self_eq_true, bne_self_eq_false, Bool.false_eq_true, if_false, if_true, Int.cast_ofNat_Int, decide_true, decide_false, reduceCtorEq, Nat.reduceEqDiff, Nat.reduceAdd, ne_eq, not_false_eq_true, Option.map_some, Option.bind_some, Option.map_none, Option.bind_none, true_and, and_true, Bool.not_true, Bool.not_false, Nat.reduceLeDiff, Nat.reduceMul, Nat.reduceSub, Nat.le_refl, Int.reduceToNat, Int.reduceLT, Int.reduceLE, Nat.one_mul, Nat.mul_one, c1]
        refine gC.of Kind_spec ?_
        rintro _ _ ⟨⟨hu, rfl⟩ | ⟨hu, rfl⟩, hm⟩ <;> subst hm
        · rw [if_neg (by simpa using hu)] at hc
          simp only [go_sem, Bool.false_and, new_set, Int.reduceBEq, Int.reduceBNe, Int.reduceNeg, not_true_eq_false, beq_self_eq_true, bne_self_eq_false, Bool.false_eq_true, if_false, if_true, Int.cast_ofNat_Int, decide_true, decide_false, reduceCtorEq, Nat.reduceEqDiff, Nat.reduceAdd, ne_eq, not_false_eq_true, Option.map_some, Option.bind_some, Option.map_none, Option.bind_none, true_and, and_true, Bool.not_true, Bool.not_false, Nat.reduceLeDiff, Nat.reduceMul, Nat.reduceSub, Nat.le_refl, Int.reduceToNat, Int.reduceLT, Int.reduceLE, Nat.one_mul, Nat.mul_one, aExt0, aExt1, aExt2, c2]
          by_cases h3 : w.2 < 1
          · have e3 : decide (w.2 < 1) = true := decide_eq_true h3
            rw [if_pos (.inl h3)] at hc
            simp only [go_sem, Bool.false_and, new_set, Int.reduceBEq, Int.reduceBNe, Int.reduceNeg, not_true_eq_false, beq_self_eq_true, bne_self_eq_false, Bool.false_eq_true, if_false, if_true, Int.cast_ofNat_Int, decide_true, decide_false, reduceCtorEq, Nat.reduceEqDiff, Nat.reduceAdd, ne_eq, not_false_eq_true, Option.map_some, Option.bind_some, Option.map_none, Option.bind_none, true_and, and_true, Bool.not_true, Bool.not_false, Nat.reduceLeDiff, Nat.reduceMul, Nat.reduceSub, Nat.le_refl, Int.reduceToNat, Int.reduceLT, Int.reduceLE, Nat.one_mul, Nat.mul_one, e3]
            rw [hc]; exact ⟨rfl, hx3⟩
          · have e3 : decide (w.2 < 1) = false := decide_eq_false h3
            simp only [go_sem, Bool.false_and, new_set, Int.reduceBEq, Int.reduceBNe, Int.reduceNeg, not_true_eq_false, beq_self_eq_true, bne_self_eq_false, Bool.false_eq_true, if_false, if_true, Int.cast_ofNat_Int, decide_true, decide_false, reduceCtorEq, Nat.reduceEqDiff, Nat.reduceAdd, ne_eq, not_false_eq_true, Option.map_some, Option.bind_some, Option.map_none, Option.bind_none, true_and, and_true, Bool.not_true, Bool.not_false, Nat.reduceLeDiff, Nat.reduceMul, Nat.reduceSub, Nat.le_refl, Int.reduceToNat, Int.reduceLT, Int.reduceLE, Nat.one_mul, Nat.mul_one, e3, c2]
            by_cases h4 : f < w.2
            · have e4 : decide (f < w.2) = true := decide_eq_true h4
              rw [if_pos (.inr h4)] at hc
              simp only [go_sem, Bool.false_and, new_set, Int.reduceBEq, Int.reduceBNe, Int.reduceNeg, not_true_eq_false, beq_self_eq_true, bne_self_eq_false, Bool.false_eq_true, if_false, if_true, Int.cast_ofNat_Int, decide_true, decide_false, reduceCtorEq, Nat.reduceEqDiff, Nat.reduceAdd, ne_eq, not_false_eq_true, Option.map_some, Option.bind_some, Option.map_none, Option.bind_none, true_and, and_true, Bool.not_true, Bool.not_false, Nat.reduceLeDiff, Nat.reduceMul, Nat.reduceSub, Nat.le_refl, Int.reduceToNat, Int.reduceLT, Int.reduceLE, Nat.one_mul, Nat.mul_one, e4]
              rw [hc]; exact ⟨rfl, hx3⟩
            · have e4 : decide (f < w.2) = false := decide_eq_false h4
              rw [if_neg (by omega)] at hc
              have lk := hM3.look_ok (x := w.1) (z := ())
              simp only [vU] at lk
              simp only [go_sem, Bool.false_and, new_set, Int.reduceBEq, Int.reduceBNe, Int.reduceNeg, not_true_eq_false, beq_self_eq_true, bne_self_eq_false, Bool.false_eq_true, if_false, if_true, Int.cast_ofNat_Int, decide_true, decide_false, reduceCtorEq, Nat.reduceEqDiff, Nat.reduceAdd, ne_eq, not_false_eq_true, Option.map_some, Option.bind_some, Option.map_none, Option.bind_none, true_and, and_true, Bool.not_true, Bool.not_false, Nat.reduceLeDiff, Nat.reduceMul, Nat.reduceSub, Nat.le_refl, Int.reduceToNat, Int.reduceLT, Int.reduceLE, Nat.one_mul, Nat.mul_one, e4, c1, lk, aExt0, aExt1, st0]
              have hx4 := hx3.trans (Ext.new (m := _) (o := .cells [] (some 0)))
              have hM4 := hM3.keep (Ext.new (m := _) (o := .cells [] (some 0)))
              have hb4 := hbx.keep (Ext.new (m := _) (o := .cells [] (some 0)))
              generalize Mem.new _ (.cells [] (some 0)) = m4 at hx4 hM4 hb4 ⊢
              have hLu := hL w.1
              cases hlk : lkp L w.1 with
              | some _ =>
                rw [hlk] at hLu
                have hyes : ∃ p ∈ l.take i, p.1 = w.1 := of_decide_eq_true hLu.symm
                rw [if_pos hyes] at hc
                simp only [go_sem, Bool.false_and, new_set, Int.reduceBEq, Int.reduceBNe, Int.reduceNeg, not_true_eq_false, beq_self_eq_true, bne_self_eq_false, Bool.false_eq_true, if_false, if_true, Int.cast_ofNat_Int, decide_true, decide_false, reduceCtorEq, Nat.reduceEqDiff, Nat.reduceAdd, ne_eq, not_false_eq_true, Option.map_some, Option.bind_some, Option.map_none, Option.bind_none, true_and, and_true, Bool.not_true, Bool.not_false, Nat.reduceLeDiff, Nat.reduceMul, Nat.reduceSub, Nat.le_refl, Int.reduceToNat, Int.reduceLT, Int.reduceLE, Nat.one_mul, Nat.mul_one, Option.isSome_some]
                rw [hc]; exact ⟨rfl, hx4⟩
              | none =>
                rw [hlk] at hLu
                have hno : ¬ ∃ p ∈ l.take i, p.1 = w.1 := of_decide_eq_false hLu.symm
                rw [if_neg hno] at hc
                have c1' : aLoad false 1 m4 (.pointer (some ⟨m2.next, 0, none⟩)) = some (.int .i64 w.1) := by simp only [go_sem, Bool.false_and, new_set, Int.reduceBEq, Int.reduceBNe, Int.reduceNeg, not_true_eq_false, beq_self_eq_true, bne_self_eq_false, Bool.false_eq_true, if_false, if_true, Int.cast_ofNat_Int, decide_true, decide_false, reduceCtorEq, Nat.reduceEqDiff, Nat.reduceAdd, ne_eq, not_false_eq_true, Option.map_some, Option.bind_some, Option.map_none, Option.bind_none, true_and, and_true, Bool.not_true, Bool.not_false, Nat.reduceLeDiff, Nat.reduceMul, Nat.reduceSub, Nat.le_refl, Int.reduceToNat, Int.reduceLT, Int.reduceLE, Nat.one_mul, Nat.mul_one, load_w, load_a, store_b, idxS_b, set_blk, new_blk, set_next, new_next, len_s, ldW_c, ldA_c, stB_c, toArr_one, size_one, toList_toArr, size_toArr, List.length_cons, List.length_nil, List.getElem?_cons_zero, List.getElem?_cons_succ, Nat.zero_add, Nat.add_zero, hb4.at_]
                have pt := hM4.put (x := w.1) (a := ())
                simp only [vU] at pt
                simp only [go_sem, Bool.false_and, new_set, Int.reduceBEq, Int.reduceBNe, Int.reduceNeg, not_true_eq_false, beq_self_eq_true, bne_self_eq_false, Bool.false_eq_true, if_false, if_true, Int.cast_ofNat_Int, decide_true, decide_false, reduceCtorEq, Nat.reduceEqDiff, Nat.reduceAdd, ne_eq, not_false_eq_true, Option.map_some, Option.bind_some, Option.map_none, Option.bind_none, true_and, and_true, Bool.not_true, Bool.not_false, Nat.reduceLeDiff, Nat.reduceMul, Nat.reduceSub, Nat.le_refl, Int.reduceToNat, Int.reduceLT, Int.reduceLE, Nat.one_mul, Nat.mul_one, Option.isSome_none, c1', pt, s1]
                refine ⟨l.length - (i + 1), by omega, i + 1, updL L w.1 (), by omega, rfl, rfl, hc, hM4.self, fun u => ?_, hx4.set (Nat.le_refl _)⟩
                rw [lkp_upd, htk]
                by_cases e : u = w.1
                · subst e
                  simp
                · rw [if_neg e, hL]
                  rw [decide_eq_decide]
                  constructor
                  · rintro ⟨p, hp, h⟩; exact ⟨p, by simp [hp], h⟩
                  · rintro ⟨p, hp, h⟩
                    rcases List.mem_append.1 hp with h' | h'
                    · exact ⟨p, h', h⟩
                    · rw [List.mem_singleton.1 h'] at h; exact absurd h.symm e
        · rw [if_pos hu] at hc
          simp only [go_sem, Bool.false_and, new_set, Int.reduceBEq, Int.reduceBNe, Int.reduceNeg, not_true_eq_false, beq_self_eq_true, bne_self_eq_false, Bool.false_eq_true, if_false, if_true, Int.cast_ofNat_Int, decide_true, decide_false, reduceCtorEq, Nat.reduceEqDiff, Nat.reduceAdd, ne_eq, not_false_eq_true, Option.map_some, Option.bind_some, Option.map_none, Option.bind_none, true_and, and_true, Bool.not_true, Bool.not_false, Nat.reduceLeDiff, Nat.reduceMul, Nat.reduceSub, Nat.le_refl, Int.reduceToNat, Int.reduceLT, Int.reduceLE, Nat.one_mul, Nat.mul_one, aExt0, aExt1, aExt2]
          rw [hc]; exact ⟨rfl, hx3⟩
      · have : i = l.length := by omega
        subst this
        rw [List.drop_length] at hc
        simp only [go_sem, Bool.false_and, new_set, Int.reduceBEq, Int.reduceBNe, Int.reduceNeg, not_true_eq_false, beq_self_eq_true, bne_self_eq_false, Bool.false_eq_true, if_false, if_true, Int.cast_ofNat_Int, decide_true, decide_false, reduceCtorEq, Nat.reduceEqDiff, Nat.reduceAdd, ne_eq, not_false_eq_true, Option.map_some, Option.bind_some, Option.map_none, Option.bind_none, true_and, and_true, Bool.not_true, Bool.not_false, Nat.reduceLeDiff, Nat.reduceMul, Nat.reduceSub, Nat.le_refl, Int.reduceToNat, Int.reduceLT, Int.reduceLE, Nat.one_mul, Nat.mul_one, g1']
        rw [hc]; exact ⟨rfl, hx⟩
end Go.Am


/- CoresMul over the table of local (relayset.py). -/
set_option linter.unusedVariables false
set_option linter.unusedSimpArgs false
namespace Go.Am
theorem Mul64_spec {m : Mem} {x y : BitVec 64} : WC R F.math_bits_Mul64 [u64 x, u64 y] m fun v m' => v = .tuple #[u64 (hiW x y), u64 (x * y)] ∧ m' = m := by
  refine WC.of R.math_bits_Mul64 rfl ?_
  simp only [RC.math_bits_Mul64, go_sem, Bool.false_and, new_set, Int.reduceBEq, Int.reduceBNe, Int.reduceNeg, not_true_eq_false, beq_self_eq_true, bne_self_eq_false, Bool.false_eq_true, if_false, if_true, Int.cast_ofNat_Int, decide_true, decide_false, reduceCtorEq, Nat.reduceEqDiff, Nat.reduceAdd, ne_eq, not_false_eq_true, Option.map_some, Option.bind_some, Option.map_none, Option.bind_none, true_and, and_true, Bool.not_true, Bool.not_false, Nat.reduceLeDiff, Nat.reduceMul, Nat.reduceSub, Nat.le_refl, Int.reduceToNat, Int.reduceLT, Int.reduceLE, Nat.one_mul, Nat.mul_one, BitVec.toNat_ofNat, Nat.reducePow, Nat.reduceMod, hiW]
end Go.Am


/- A local: who is ahead, who is off. -/
set_option linter.unusedVariables false
set_option linter.unusedSimpArgs false
namespace Go.Am
variable {m : Mem}

theorem cmpNaN {a : Int} : WC R F.cmp_isNaN_int [.int .i64 a] m fun r m' => r = .bool false ∧ m' = m := by
  refine WC.of R.cmp_isNaN_int rfl ?_
  have e : (a != a) = false := bne_self_eq_false a
  simp only [RC.cmp_isNaN_int, go_sem, Bool.false_and, new_set, Int.reduceBEq, Int.reduceBNe, Int.reduceNeg, not_true_eq_false, beq_self_eq_true, bne_self_eq_false, Bool.false_eq_true, if_false, if_true, Int.cast_ofNat_Int, decide_true, decide_false, reduceCtorEq, Nat.reduceEqDiff, Nat.reduceAdd, ne_eq, not_false_eq_true, Option.map_some, Option.bind_some, Option.map_none, Option.bind_none, true_and, and_true, Bool.not_true, Bool.not_false, Nat.reduceLeDiff, Nat.reduceMul, Nat.reduceSub, Nat.le_refl, Int.reduceToNat, Int.reduceLT, Int.reduceLE, Nat.one_mul, Nat.mul_one, e]

def cmpI (a b : Int) : Int := if a < b then -1 else if b < a then 1 else 0
theorem cmpInt {a b : Int} : WC R F.cmp_Compare_int [.int .i64 a, .int .i64 b] m fun r m' => r = .int .i64 (cmpI a b) ∧ m' = m := by
  refine WC.of R.cmp_Compare_int rfl ?_
  simp only [RC.cmp_Compare_int, go_sem, Bool.false_and, new_set, Int.reduceBEq, Int.reduceBNe, Int.reduceNeg, not_true_eq_false, beq_self_eq_true, bne_self_eq_false, Bool.false_eq_true, if_false, if_true, Int.cast_ofNat_Int, decide_true, decide_false, reduceCtorEq, Nat.reduceEqDiff, Nat.reduceAdd, ne_eq, not_false_eq_true, Option.map_some, Option.bind_some, Option.map_none, Option.bind_none, true_and, and_true, Bool.not_true, Bool.not_false, Nat.reduceLeDiff, Nat.reduceMul, Nat.reduceSub, Nat.le_refl, Int.reduceToNat, Int.reduceLT, Int.reduceLE, Nat.one_mul, Nat.mul_one]
  refine gC.of cmpNaN ?_
  rintro _ m_ ⟨rfl, hm_⟩
  replace hm_ := hm_.symm
  subst hm_
  simp only [go_sem, Bool.false_and, new_set, Int.reduceBEq, Int.reduceBNe, Int.reduceNeg, not_true_eq_false, beq_self_eq_true, bne_self_eq_false, Bool.false_eq_true, if_false, if_true, Int.cast_ofNat_Int, decide_true, decide_false, reduceCtorEq, Nat.reduceEqDiff, Nat.reduceAdd, ne_eq, not_false_eq_true, Option.map_some, Option.bind_some, Option.map_none, Option.bind_none, true_and, and_true, Bool.not_true, Bool.not_false, Nat.reduceLeDiff, Nat.reduceMul, Nat.reduceSub, Nat.le_refl, Int.reduceToNat, Int.reduceLT, Int.reduceLE, Nat.one_mul, Nat.mul_one]
  refine gC.of cmpNaN ?_
  rintro _ m_ ⟨rfl, hm_⟩
  replace hm_ := hm_.symm
  subst hm_
  simp only [go_sem, Bool.false_and, new_set, Int.reduceBEq, Int.reduceBNe, Int.reduceNeg, not_true_eq_false, beq_self_eq_true, bne_self_eq_false, Bool.false_eq_true, if_false, if_true, Int.cast_ofNat_Int, decide_true, decide_false, reduceCtorEq, Nat.reduceEqDiff, Nat.reduceAdd, ne_eq, not_false_eq_true, Option.map_some, Option.bind_some, Option.map_none, Option.bind_none, true_and, and_true, Bool.not_true, Bool.not_false, Nat.reduceLeDiff, Nat.reduceMul, Nat.reduceSub, Nat.le_refl, Int.reduceToNat, Int.reduceLT, Int.reduceLE, Nat.one_mul, Nat.mul_one]
  refine gT.of (fun g1' => ?_) (fun g1' => ?_) <;> (have g1 := g1'; try simp only [decide_eq_true_eq, decide_eq_false_iff_not, beq_iff_eq, bne_iff_ne, beq_eq_false_iff_ne, ne_eq, Bool.not_eq_true', Bool.not_eq_false', bne_eq_false_iff_eq, Int.not_lt, Int.not_le] at g1)
  · simp only [go_sem, Bool.false_and, new_set, Int.reduceBEq, Int.reduceBNe, Int.reduceNeg, not_true_eq_false, beq_self_eq_true, bne_self_eq_false, Bool.false_eq_true, if_false, if_true, Int.cast_ofNat_Int, decide_true, decide_false, reduceCtorEq, Nat.reduceEqDiff, Nat.reduceAdd, ne_eq, not_false_eq_true, Option.map_some, Option.bind_some, Option.map_none, Option.bind_none, true_and, and_true, Bool.not_true, Bool.not_false, Nat.reduceLeDiff, Nat.reduceMul, Nat.reduceSub, Nat.le_refl, Int.reduceToNat, Int.reduceLT, Int.reduceLE, Nat.one_mul, Nat.mul_one, cmpI, g1, g1']
  · simp only [go_sem, Bool.false_and, new_set, Int.reduceBEq, Int.reduceBNe, Int.reduceNeg, not_true_eq_false, beq_self_eq_true, bne_self_eq_false, Bool.false_eq_true, if_false, if_true, Int.cast_ofNat_Int, decide_true, decide_false, reduceCtorEq, Nat.reduceEqDiff, Nat.reduceAdd, ne_eq, not_false_eq_true, Option.map_some, Option.bind_some, Option.map_none, Option.bind_none, true_and, and_true, Bool.not_true, Bool.not_false, Nat.reduceLeDiff, Nat.reduceMul, Nat.reduceSub, Nat.le_refl, Int.reduceToNat, Int.reduceLT, Int.reduceLE, Nat.one_mul, Nat.mul_one, g1']
    refine gT.of (fun g2' => ?_) (fun g2' => ?_) <;> (have g2 := g2'; try simp only [decide_eq_true_eq, decide_eq_false_iff_not, beq_iff_eq, bne_iff_ne, beq_eq_false_iff_ne, ne_eq, Bool.not_eq_true', Bool.not_eq_false', bne_eq_false_iff_eq, Int.not_lt, Int.not_le] at g2)
    · have g3 : ¬ a < b := by omega
      simp only [go_sem, Bool.false_and, new_set, Int.reduceBEq, Int.reduceBNe, Int.reduceNeg, not_true_eq_false, beq_self_eq_true, bne_self_eq_false, Bool.false_eq_true, if_false, if_true, Int.cast_ofNat_Int, decide_true, decide_false, reduceCtorEq, Nat.reduceEqDiff, Nat.reduceAdd, ne_eq, not_false_eq_true, Option.map_some, Option.bind_some, Option.map_none, Option.bind_none, true_and, and_true, Bool.not_true, Bool.not_false, Nat.reduceLeDiff, Nat.reduceMul, Nat.reduceSub, Nat.le_refl, Int.reduceToNat, Int.reduceLT, Int.reduceLE, Nat.one_mul, Nat.mul_one, cmpI, g3, g2, g2']
    · have g3 : ¬ a < b := by omega
      have g4 : ¬ b < a := by omega
      simp only [go_sem, Bool.false_and, new_set, Int.reduceBEq, Int.reduceBNe, Int.reduceNeg, not_true_eq_false, beq_self_eq_true, bne_self_eq_false, Bool.false_eq_true, if_false, if_true, Int.cast_ofNat_Int, decide_true, decide_false, reduceCtorEq, Nat.reduceEqDiff, Nat.reduceAdd, ne_eq, not_false_eq_true, Option.map_some, Option.bind_some, Option.map_none, Option.bind_none, true_and, and_true, Bool.not_true, Bool.not_false, Nat.reduceLeDiff, Nat.reduceMul, Nat.reduceSub, Nat.le_refl, Int.reduceToNat, Int.reduceLT, Int.reduceLE, Nat.one_mul, Nat.mul_one, cmpI, g3, g4, g2']
theorem cmpI_neg {a b : Int} : cmpI a b < 0 ↔ a < b := by
  unfold cmpI
  split
  · omega
  · split <;> omega

theorem enCmp (m : Mem) (x y : En) : WC R F.local_New_1 [.agg (enV x).toArray, .agg (enV y).toArray] m fun r m' => r = .int .i64 (cmpI x.u y.u) ∧ Ext m m' := by
  refine WC.of R.local_New_1 rfl ?_
  simp only [RC.local_New_1, go_sem, Bool.false_and, new_set, Int.reduceBEq, Int.reduceBNe, Int.reduceNeg, not_true_eq_false, beq_self_eq_true, bne_self_eq_false, Bool.false_eq_true, if_false, if_true, Int.cast_ofNat_Int, decide_true, decide_false, reduceCtorEq, Nat.reduceEqDiff, Nat.reduceAdd, ne_eq, not_false_eq_true, Option.map_some, Option.bind_some, Option.map_none, Option.bind_none, true_and, and_true, Bool.not_true, Bool.not_false, Nat.reduceLeDiff, Nat.reduceMul, Nat.reduceSub, Nat.le_refl, Int.reduceToNat, Int.reduceLT, Int.reduceLE, Nat.one_mul, Nat.mul_one, enV]
  have hn : (m.next = m.next + 1) = False := eq_false (by omega)
  try simp only [go_sem, Bool.false_and, new_set, Int.reduceBEq, Int.reduceBNe, Int.reduceNeg, not_true_eq_false, beq_self_eq_true, bne_self_eq_false, Bool.false_eq_true, if_false, if_true, Int.cast_ofNat_Int, decide_true, decide_false, reduceCtorEq, Nat.reduceEqDiff, Nat.reduceAdd, ne_eq, not_false_eq_true, Option.map_some, Option.bind_some, Option.map_none, Option.bind_none, true_and, and_true, Bool.not_true, Bool.not_false, Nat.reduceLeDiff, Nat.reduceMul, Nat.reduceSub, Nat.le_refl, Int.reduceToNat, Int.reduceLT, Int.reduceLE, Nat.one_mul, Nat.mul_one, load_w, load_a, store_b, idxS_b, set_blk, new_blk, set_next, new_next, len_s, ldW_c, ldA_c, stB_c, toArr_one, size_one, toList_toArr, size_toArr, List.length_cons, List.length_nil, List.getElem?_cons_zero, List.getElem?_cons_succ, Nat.zero_add, Nat.add_zero, hn]
  refine gC.of cmpInt ?_
  rintro _ _ ⟨rfl, hm⟩
  subst hm
  try simp only [go_sem, Bool.false_and, new_set, Int.reduceBEq, Int.reduceBNe, Int.reduceNeg, not_true_eq_false, beq_self_eq_true, bne_self_eq_false, Bool.false_eq_true, if_false, if_true, Int.cast_ofNat_Int, decide_true, decide_false, reduceCtorEq, Nat.reduceEqDiff, Nat.reduceAdd, ne_eq, not_false_eq_true, Option.map_some, Option.bind_some, Option.map_none, Option.bind_none, true_and, and_true, Bool.not_true, Bool.not_false, Nat.reduceLeDiff, Nat.reduceMul, Nat.reduceSub, Nat.le_refl, Int.reduceToNat, Int.reduceLT, Int.reduceLE, Nat.one_mul, Nat.mul_one, load_w, load_a, store_b, idxS_b, set_blk, new_blk, set_next, new_next, len_s, ldW_c, ldA_c, stB_c, toArr_one, size_one, toList_toArr, size_toArr, List.length_cons, List.length_nil, List.getElem?_cons_zero, List.getElem?_cons_succ, Nat.zero_add, Nat.add_zero]
  exact Ext.new.trans Ext.new
theorem enSWO : Go.Sort.SWO fun x y : En => decide (cmpI x.u y.u < 0) := by
  have k : ∀ a b : Int, decide (cmpI a b < 0) = decide (a < b) := fun a b => by
    rw [decide_eq_decide]; exact cmpI_neg
  simp only [k]
  exact ⟨fun x => by simp, fun x y z h1 h2 => by simp only [decide_eq_true_eq] at *; omega, fun x y z h1 h2 => by simp only [decide_eq_false_iff_not] at *; omega⟩

theorem intsZ_len {l : List Int} : (intsZ l).length = l.length := by simp [intsZ]
theorem intsZ_get {l : List Int} {i : Nat} (h : i < l.length) : (intsZ l)[i]? = some (.int .i64 l[i]) := by simp [intsZ, h]

theorem ixInt {l : List Int} {v : Value} {x : Int} (hs : Sl m 1 l.length (intsZ l) v) (hl : l.length < 1000000) :
    WC R F.slices_Index_int_int [v, .int .i64 x] m fun r m' => ((x ∉ l ∧ r = .int .i64 (-1)) ∨ (x ∈ l ∧ ∃ i : Nat, r = .int .i64 i)) ∧ m' = m := by
  refine WC.of R.slices_Index_int_int rfl ?_
  simp only [RC.slices_Index_int_int, go_sem, Bool.false_and, new_set, Int.reduceBEq, Int.reduceBNe, Int.reduceNeg, not_true_eq_false, beq_self_eq_true, bne_self_eq_false, Bool.false_eq_true, if_false, if_true, Int.cast_ofNat_Int, decide_true, decide_false, reduceCtorEq, Nat.reduceEqDiff, Nat.reduceAdd, ne_eq, not_false_eq_true, Option.map_some, Option.bind_some, Option.map_none, Option.bind_none, true_and, and_true, Bool.not_true, Bool.not_false, Nat.reduceLeDiff, Nat.reduceMul, Nat.reduceSub, Nat.le_refl, Int.reduceToNat, Int.reduceLT, Int.reduceLE, Nat.one_mul, Nat.mul_one, hs.len]
  refine WL.of (fun n e m' => ∃ i : Nat, i ≤ l.length ∧ n = l.length - i ∧ m' = m ∧ e = [(0, v), (1, .int .i64 x), (7, .int .i64 l.length), (8, .int .i64 i)] ∧ x ∉ l.take i) l.length
    ⟨0, by omega, by omega, rfl, by simp only [go_sem, Bool.false_and, new_set, Int.reduceBEq, Int.reduceBNe, Int.reduceNeg, not_true_eq_false, beq_self_eq_true, bne_self_eq_false, Bool.false_eq_true, if_false, if_true, Int.cast_ofNat_Int, decide_true, decide_false, reduceCtorEq, Nat.reduceEqDiff, Nat.reduceAdd, ne_eq, not_false_eq_true, Option.map_some, Option.bind_some, Option.map_none, Option.bind_none, true_and, and_true, Bool.not_true, Bool.not_false, Nat.reduceLeDiff, Nat.reduceMul, Nat.reduceSub, Nat.le_refl, Int.reduceToNat, Int.reduceLT, Int.reduceLE, Nat.one_mul, Nat.mul_one] <;> rfl, by simp⟩ ?_
  rintro _ _ _ ⟨i, hi, rfl, rfl, rfl, hno⟩
  simp only [RB.slices_Index_int_int_1, go_sem, Bool.false_and, new_set, Int.reduceBEq, Int.reduceBNe, Int.reduceNeg, not_true_eq_false, beq_self_eq_true, bne_self_eq_false, Bool.false_eq_true, if_false, if_true, Int.cast_ofNat_Int, decide_true, decide_false, reduceCtorEq, Nat.reduceEqDiff, Nat.reduceAdd, ne_eq, not_false_eq_true, Option.map_some, Option.bind_some, Option.map_none, Option.bind_none, true_and, and_true, Bool.not_true, Bool.not_false, Nat.reduceLeDiff, Nat.reduceMul, Nat.reduceSub, Nat.le_refl, Int.reduceToNat, Int.reduceLT, Int.reduceLE, Nat.one_mul, Nat.mul_one]
  refine gT.of (fun g1' => ?_) (fun g1' => ?_) <;> (have g1 := g1'; try simp only [decide_eq_true_eq, decide_eq_false_iff_not, beq_iff_eq, bne_iff_ne, beq_eq_false_iff_ne, ne_eq, Bool.not_eq_true', Bool.not_eq_false', bne_eq_false_iff_eq, Int.not_lt, Int.not_le] at g1)
  · have hil : i < l.length := by omega
    have s1 := step1 (show i < 1000000 by omega)
    obtain ⟨p, a1, a2⟩ := hs.get (k := .i64) hil
    rw [intsZ_get hil] at a2
    simp only [go_sem, Bool.false_and, new_set, Int.reduceBEq, Int.reduceBNe, Int.reduceNeg, not_true_eq_false, beq_self_eq_true, bne_self_eq_false, Bool.false_eq_true, if_false, if_true, Int.cast_ofNat_Int, decide_true, decide_false, reduceCtorEq, Nat.reduceEqDiff, Nat.reduceAdd, ne_eq, not_false_eq_true, Option.map_some, Option.bind_some, Option.map_none, Option.bind_none, true_and, and_true, Bool.not_true, Bool.not_false, Nat.reduceLeDiff, Nat.reduceMul, Nat.reduceSub, Nat.le_refl, Int.reduceToNat, Int.reduceLT, Int.reduceLE, Nat.one_mul, Nat.mul_one, g1', a1, a2]
    refine gT.of (fun g2' => ?_) (fun g2' => ?_) <;> (have g2 := g2'; try simp only [decide_eq_true_eq, decide_eq_false_iff_not, beq_iff_eq, bne_iff_ne, beq_eq_false_iff_ne, ne_eq, Bool.not_eq_true', Bool.not_eq_false', bne_eq_false_iff_eq, Int.not_lt, Int.not_le] at g2)
    · simp only [go_sem, Bool.false_and, new_set, Int.reduceBEq, Int.reduceBNe, Int.reduceNeg, not_true_eq_false, beq_self_eq_true, bne_self_eq_false, Bool.false_eq_true, if_false, if_true, Int.cast_ofNat_Int, decide_true, decide_false, reduceCtorEq, Nat.reduceEqDiff, Nat.reduceAdd, ne_eq, not_false_eq_true, Option.map_some, Option.bind_some, Option.map_none, Option.bind_none, true_and, and_true, Bool.not_true, Bool.not_false, Nat.reduceLeDiff, Nat.reduceMul, Nat.reduceSub, Nat.le_refl, Int.reduceToNat, Int.reduceLT, Int.reduceLE, Nat.one_mul, Nat.mul_one, g2']
      exact .inr ⟨by rw [g2]; exact List.getElem_mem hil, i, rfl⟩
    · simp only [go_sem, Bool.false_and, new_set, Int.reduceBEq, Int.reduceBNe, Int.reduceNeg, not_true_eq_false, beq_self_eq_true, bne_self_eq_false, Bool.false_eq_true, if_false, if_true, Int.cast_ofNat_Int, decide_true, decide_false, reduceCtorEq, Nat.reduceEqDiff, Nat.reduceAdd, ne_eq, not_false_eq_true, Option.map_some, Option.bind_some, Option.map_none, Option.bind_none, true_and, and_true, Bool.not_true, Bool.not_false, Nat.reduceLeDiff, Nat.reduceMul, Nat.reduceSub, Nat.le_refl, Int.reduceToNat, Int.reduceLT, Int.reduceLE, Nat.one_mul, Nat.mul_one, g2', s1]
      refine ⟨l.length - (i + 1), by omega, i + 1, by omega, rfl, rfl, ?_⟩
      rw [List.take_succ_eq_append_getElem hil]
      intro h
      rcases List.mem_append.1 h with h | h
      · exact hno h
      · exact g2 (List.mem_singleton.1 h)
  · have : i = l.length := by omega
    subst this
    rw [List.take_length] at hno
    simp only [go_sem, Bool.false_and, new_set, Int.reduceBEq, Int.reduceBNe, Int.reduceNeg, not_true_eq_false, beq_self_eq_true, bne_self_eq_false, Bool.false_eq_true, if_false, if_true, Int.cast_ofNat_Int, decide_true, decide_false, reduceCtorEq, Nat.reduceEqDiff, Nat.reduceAdd, ne_eq, not_false_eq_true, Option.map_some, Option.bind_some, Option.map_none, Option.bind_none, true_and, and_true, Bool.not_true, Bool.not_false, Nat.reduceLeDiff, Nat.reduceMul, Nat.reduceSub, Nat.le_refl, Int.reduceToNat, Int.reduceLT, Int.reduceLE, Nat.one_mul, Nat.mul_one, g1']
    exact .inl hno

theorem hasInt {l : List Int} {v : Value} {x : Int} (hs : Sl m 1 l.length (intsZ l) v) (hl : l.length < 1000000) :
    WC R F.slices_Contains_int_int [v, .int .i64 x] m fun r m' => r = .bool (decide (x ∈ l)) ∧ m' = m := by
  refine WC.of R.slices_Contains_int_int rfl ?_
  simp only [RC.slices_Contains_int_int, go_sem, Bool.false_and, new_set, Int.reduceBEq, Int.reduceBNe, Int.reduceNeg, not_true_eq_false, beq_self_eq_true, bne_self_eq_false, Bool.false_eq_true, if_false, if_true, Int.cast_ofNat_Int, decide_true, decide_false, reduceCtorEq, Nat.reduceEqDiff, Nat.reduceAdd, ne_eq, not_false_eq_true, Option.map_some, Option.bind_some, Option.map_none, Option.bind_none, true_and, and_true, Bool.not_true, Bool.not_false, Nat.reduceLeDiff, Nat.reduceMul, Nat.reduceSub, Nat.le_refl, Int.reduceToNat, Int.reduceLT, Int.reduceLE, Nat.one_mul, Nat.mul_one]
  refine gC.of (ixInt hs hl) ?_
  rintro _ _ ⟨⟨h, rfl⟩ | ⟨h, i, rfl⟩, hm⟩ <;> subst hm
  · simp only [go_sem, Bool.false_and, new_set, Int.reduceBEq, Int.reduceBNe, Int.reduceNeg, not_true_eq_false, beq_self_eq_true, bne_self_eq_false, Bool.false_eq_true, if_false, if_true, Int.cast_ofNat_Int, decide_true, decide_false, reduceCtorEq, Nat.reduceEqDiff, Nat.reduceAdd, ne_eq, not_false_eq_true, Option.map_some, Option.bind_some, Option.map_none, Option.bind_none, true_and, and_true, Bool.not_true, Bool.not_false, Nat.reduceLeDiff, Nat.reduceMul, Nat.reduceSub, Nat.le_refl, Int.reduceToNat, Int.reduceLT, Int.reduceLE, Nat.one_mul, Nat.mul_one]
    rw [decide_eq_false h]
  · have e : decide ((0 : Int) ≤ (i : Int)) = true := by simp
    simp only [go_sem, Bool.false_and, new_set, Int.reduceBEq, Int.reduceBNe, Int.reduceNeg, not_true_eq_false, beq_self_eq_true, bne_self_eq_false, Bool.false_eq_true, if_false, if_true, Int.cast_ofNat_Int, decide_true, decide_false, reduceCtorEq, Nat.reduceEqDiff, Nat.reduceAdd, ne_eq, not_false_eq_true, Option.map_some, Option.bind_some, Option.map_none, Option.bind_none, true_and, and_true, Bool.not_true, Bool.not_false, Nat.reduceLeDiff, Nat.reduceMul, Nat.reduceSub, Nat.le_refl, Int.reduceToNat, Int.reduceLT, Int.reduceLE, Nat.one_mul, Nat.mul_one, e]
    rw [decide_eq_true h]

/-- Two quotients of small numbers. -/
theorem fixCmp {a b c d : Nat} (ha : a < 1000000) (hb : b < 1000000) (hc : c < 1000000) (hd : d < 1000000) (hb0 : 0 < b) (hd0 : 0 < d) :
    WC R F.fixq_Compare [u64 (BitVec.ofNat 64 a), u64 (BitVec.ofNat 64 b), u64 (BitVec.ofNat 64 c), u64 (BitVec.ofNat 64 d)] m fun r m' =>
      r = .tuple #[.int .i64 (if a * d < c * b then -1 else if a * d = c * b then 0 else 1), .int .i64 0] ∧ m' = m := by
  refine WC.of R.fixq_Compare rfl ?_
  have nz : ∀ x : Nat, x < 1000000 → 0 < x → decide (BitVec.ofNat 64 x = 0#64) = false := fun x h h0 => decide_eq_false fun e => by
    have := congrArg BitVec.toNat e
    simp at this
    omega
  simp only [RC.fixq_Compare, go_sem, Bool.false_and, new_set, Int.reduceBEq, Int.reduceBNe, Int.reduceNeg, not_true_eq_false, beq_self_eq_true, bne_self_eq_false, Bool.false_eq_true, if_false, if_true, Int.cast_ofNat_Int, decide_true, decide_false, reduceCtorEq, Nat.reduceEqDiff, Nat.reduceAdd, ne_eq, not_false_eq_true, Option.map_some, Option.bind_some, Option.map_none, Option.bind_none, true_and, and_true, Bool.not_true, Bool.not_false, Nat.reduceLeDiff, Nat.reduceMul, Nat.reduceSub, Nat.le_refl, Int.reduceToNat, Int.reduceLT, Int.reduceLE, Nat.one_mul, Nat.mul_one, nz b hb hb0, nz d hd hd0]
  refine gC.of Mul64_spec ?_
  rintro _ _ ⟨rfl, hm⟩
  subst hm
  simp only [go_sem, Bool.false_and, new_set, Int.reduceBEq, Int.reduceBNe, Int.reduceNeg, not_true_eq_false, beq_self_eq_true, bne_self_eq_false, Bool.false_eq_true, if_false, if_true, Int.cast_ofNat_Int, decide_true, decide_false, reduceCtorEq, Nat.reduceEqDiff, Nat.reduceAdd, ne_eq, not_false_eq_true, Option.map_some, Option.bind_some, Option.map_none, Option.bind_none, true_and, and_true, Bool.not_true, Bool.not_false, Nat.reduceLeDiff, Nat.reduceMul, Nat.reduceSub, Nat.le_refl, Int.reduceToNat, Int.reduceLT, Int.reduceLE, Nat.one_mul, Nat.mul_one, aExt0, aExt1]
  refine gC.of Mul64_spec ?_
  rintro _ _ ⟨rfl, hm⟩
  subst hm
  have sm : ∀ x y : Nat, x < 1000000 → y < 1000000 → x * y < 1000000000000 := fun x y h1 h2 => by
    have h3 : x * y ≤ 999999 * 999999 := Nat.mul_le_mul (by omega) (by omega)
    omega
  have hz : ∀ x y : Nat, x < 1000000 → y < 1000000 → hiW (BitVec.ofNat 64 x) (BitVec.ofNat 64 y) = 0#64 := fun x y h1 h2 => by
    apply BitVec.eq_of_toNat_eq
    rw [hiW_spec, BitVec.toNat_ofNat, BitVec.toNat_ofNat, Nat.mod_eq_of_lt (by omega), Nat.mod_eq_of_lt (by omega)]
    have := sm x y h1 h2
    rw [Nat.div_eq_of_lt (by omega)]; rfl
  have hp : ∀ x y : Nat, BitVec.ofNat 64 x * BitVec.ofNat 64 y = BitVec.ofNat 64 (x * y) := fun x y => by rw [BitVec.ofNat_mul]
  have ht : ∀ x y : Nat, x < 1000000 → y < 1000000 → (BitVec.ofNat 64 (x * y)).toNat = x * y := fun x y h1 h2 => by
    have := sm x y h1 h2
    rw [BitVec.toNat_ofNat, Nat.mod_eq_of_lt (by omega)]
  have t1 := ht a d ha hd
  have t2 := ht c b hc hb
  rw [hz a d ha hd, hz c b hc hb, hp, hp]
  generalize BitVec.ofNat 64 (a * d) = p at t1 ⊢
  generalize BitVec.ofNat 64 (c * b) = q at t2 ⊢
  have e0 : decide ((0#64).toNat < (0#64).toNat) = false := rfl
  have e1 : decide (0#64 = 0#64) = true := rfl
  simp only [go_sem, Bool.false_and, new_set, Int.reduceBEq, Int.reduceBNe, Int.reduceNeg, not_true_eq_false, beq_self_eq_true, bne_self_eq_false, Bool.false_eq_true, if_false, if_true, Int.cast_ofNat_Int, decide_true, decide_false, reduceCtorEq, Nat.reduceEqDiff, Nat.reduceAdd, ne_eq, not_false_eq_true, Option.map_some, Option.bind_some, Option.map_none, Option.bind_none, true_and, and_true, Bool.not_true, Bool.not_false, Nat.reduceLeDiff, Nat.reduceMul, Nat.reduceSub, Nat.le_refl, Int.reduceToNat, Int.reduceLT, Int.reduceLE, Nat.one_mul, Nat.mul_one, aExt0, aExt1, e0, e1, t1, t2]
  by_cases h1 : a * d < c * b
  · have e2 : decide (a * d < c * b) = true := decide_eq_true h1
    simp only [go_sem, Bool.false_and, new_set, Int.reduceBEq, Int.reduceBNe, Int.reduceNeg, not_true_eq_false, beq_self_eq_true, bne_self_eq_false, Bool.false_eq_true, if_false, if_true, Int.cast_ofNat_Int, decide_true, decide_false, reduceCtorEq, Nat.reduceEqDiff, Nat.reduceAdd, ne_eq, not_false_eq_true, Option.map_some, Option.bind_some, Option.map_none, Option.bind_none, true_and, and_true, Bool.not_true, Bool.not_false, Nat.reduceLeDiff, Nat.reduceMul, Nat.reduceSub, Nat.le_refl, Int.reduceToNat, Int.reduceLT, Int.reduceLE, Nat.one_mul, Nat.mul_one, e2]
    rw [if_pos h1]
  · have e2 : decide (a * d < c * b) = false := decide_eq_false h1
    simp only [go_sem, Bool.false_and, new_set, Int.reduceBEq, Int.reduceBNe, Int.reduceNeg, not_true_eq_false, beq_self_eq_true, bne_self_eq_false, Bool.false_eq_true, if_false, if_true, Int.cast_ofNat_Int, decide_true, decide_false, reduceCtorEq, Nat.reduceEqDiff, Nat.reduceAdd, ne_eq, not_false_eq_true, Option.map_some, Option.bind_some, Option.map_none, Option.bind_none, true_and, and_true, Bool.not_true, Bool.not_false, Nat.reduceLeDiff, Nat.reduceMul, Nat.reduceSub, Nat.le_refl, Int.reduceToNat, Int.reduceLT, Int.reduceLE, Nat.one_mul, Nat.mul_one, e2, e1]
    rw [if_neg h1]
    by_cases h2 : p = q
    · have e3 : decide (p = q) = true := decide_eq_true h2
      simp only [go_sem, Bool.false_and, new_set, Int.reduceBEq, Int.reduceBNe, Int.reduceNeg, not_true_eq_false, beq_self_eq_true, bne_self_eq_false, Bool.false_eq_true, if_false, if_true, Int.cast_ofNat_Int, decide_true, decide_false, reduceCtorEq, Nat.reduceEqDiff, Nat.reduceAdd, ne_eq, not_false_eq_true, Option.map_some, Option.bind_some, Option.map_none, Option.bind_none, true_and, and_true, Bool.not_true, Bool.not_false, Nat.reduceLeDiff, Nat.reduceMul, Nat.reduceSub, Nat.le_refl, Int.reduceToNat, Int.reduceLT, Int.reduceLE, Nat.one_mul, Nat.mul_one, e3]
      rw [if_pos (by rw [← t1, ← t2, h2])]
    · have e3 : decide (p = q) = false := decide_eq_false h2
      simp only [go_sem, Bool.false_and, new_set, Int.reduceBEq, Int.reduceBNe, Int.reduceNeg, not_true_eq_false, beq_self_eq_true, bne_self_eq_false, Bool.false_eq_true, if_false, if_true, Int.cast_ofNat_Int, decide_true, decide_false, reduceCtorEq, Nat.reduceEqDiff, Nat.reduceAdd, ne_eq, not_false_eq_true, Option.map_some, Option.bind_some, Option.map_none, Option.bind_none, true_and, and_true, Bool.not_true, Bool.not_false, Nat.reduceLeDiff, Nat.reduceMul, Nat.reduceSub, Nat.le_refl, Int.reduceToNat, Int.reduceLT, Int.reduceLE, Nat.one_mul, Nat.mul_one, e3]
      rw [if_neg (fun h => h2 (BitVec.eq_of_toNat_eq (by rw [t1, t2, h])))]

def Sm (e : En) : Prop := 0 < e.s ∧ e.s < 1000000 ∧ e.g < 900000

theorem locAhead {a b : En} (ha : Sm a) (hb : Sm b) : WC R F.local_ahead [.agg (enV a).toArray, .agg (enV b).toArray] m fun r m' => r = .bool (decide (ahd a b)) ∧ Ext m m' := by
  obtain ⟨ua, sa, ga⟩ := a
  obtain ⟨ub, sb, gb⟩ := b
  obtain ⟨a1, a2, a3⟩ := ha
  obtain ⟨b1, b2, b3⟩ := hb
  obtain ⟨ka, rfl⟩ : ∃ k : Nat, sa = k := ⟨sa.toNat, by simp only at a1; omega⟩
  obtain ⟨kb, rfl⟩ : ∃ k : Nat, sb = k := ⟨sb.toNat, by simp only at b1; omega⟩
  simp only at a1 a2 a3 b1 b2 b3
  refine WC.of R.local_ahead rfl ?_
  simp only [RC.local_ahead, go_sem, Bool.false_and, new_set, Int.reduceBEq, Int.reduceBNe, Int.reduceNeg, not_true_eq_false, beq_self_eq_true, bne_self_eq_false, Bool.false_eq_true, if_false, if_true, Int.cast_ofNat_Int, decide_true, decide_false, reduceCtorEq, Nat.reduceEqDiff, Nat.reduceAdd, ne_eq, not_false_eq_true, Option.map_some, Option.bind_some, Option.map_none, Option.bind_none, true_and, and_true, Bool.not_true, Bool.not_false, Nat.reduceLeDiff, Nat.reduceMul, Nat.reduceSub, Nat.le_refl, Int.reduceToNat, Int.reduceLT, Int.reduceLE, Nat.one_mul, Nat.mul_one, enV]
  have hn : (m.next = m.next + 1) = False := eq_false (by omega)
  have w1 := step1 (show ga < 1000000 by omega)
  have w2 := step1 (show gb < 1000000 by omega)
  try simp only [go_sem, Bool.false_and, new_set, Int.reduceBEq, Int.reduceBNe, Int.reduceNeg, not_true_eq_false, beq_self_eq_true, bne_self_eq_false, Bool.false_eq_true, if_false, if_true, Int.cast_ofNat_Int, decide_true, decide_false, reduceCtorEq, Nat.reduceEqDiff, Nat.reduceAdd, ne_eq, not_false_eq_true, Option.map_some, Option.bind_some, Option.map_none, Option.bind_none, true_and, and_true, Bool.not_true, Bool.not_false, Nat.reduceLeDiff, Nat.reduceMul, Nat.reduceSub, Nat.le_refl, Int.reduceToNat, Int.reduceLT, Int.reduceLE, Nat.one_mul, Nat.mul_one, load_w, load_a, store_b, idxS_b, set_blk, new_blk, set_next, new_next, len_s, ldW_c, ldA_c, stB_c, toArr_one, size_one, toList_toArr, size_toArr, List.length_cons, List.length_nil, List.getElem?_cons_zero, List.getElem?_cons_succ, Nat.zero_add, Nat.add_zero, hn, w1, w2, BitVec.ofInt_natCast]
  refine gC.of (fixCmp (a := ga + 1) (b := ka) (c := gb + 1) (d := kb) (by omega) (by omega) (by omega) (by omega) (by omega) (by omega)) ?_
  rintro _ _ ⟨rfl, hm⟩
  subst hm
  have e : decide ((if (ga + 1) * kb < (gb + 1) * ka then (-1 : Int) else if (ga + 1) * kb = (gb + 1) * ka then 0 else 1) < 0) = decide (ahd ⟨ua, (ka : Int), ga⟩ ⟨ub, (kb : Int), gb⟩) := by
    rw [decide_eq_decide]
    unfold ahd
    simp only
    rw [show ((ga : Int) + 1) * (kb : Int) = (((ga + 1) * kb : Nat) : Int) by push_cast; rfl, show ((gb : Int) + 1) * (ka : Int) = (((gb + 1) * ka : Nat) : Int) by push_cast; rfl]
    generalize (ga + 1) * kb = x
    generalize (gb + 1) * ka = y
    by_cases h : x < y
    · rw [if_pos h]; omega
    · rw [if_neg h]
      split <;> omega
  simp only [go_sem, Bool.false_and, new_set, Int.reduceBEq, Int.reduceBNe, Int.reduceNeg, not_true_eq_false, beq_self_eq_true, bne_self_eq_false, Bool.false_eq_true, if_false, if_true, Int.cast_ofNat_Int, decide_true, decide_false, reduceCtorEq, Nat.reduceEqDiff, Nat.reduceAdd, ne_eq, not_false_eq_true, Option.map_some, Option.bind_some, Option.map_none, Option.bind_none, true_and, and_true, Bool.not_true, Bool.not_false, Nat.reduceLeDiff, Nat.reduceMul, Nat.reduceSub, Nat.le_refl, Int.reduceToNat, Int.reduceLT, Int.reduceLE, Nat.one_mul, Nat.mul_one, aExt0, aExt1, e]
  exact Ext.new.trans Ext.new
end Go.Am


/- A local: a pick. -/
set_option linter.unusedVariables false
set_option linter.unusedSimpArgs false
namespace Go.Am
variable {m : Mem}

structure LocV (m0 m : Mem) (b : Nat) (L : List En) (lv : Value) : Prop where
  box : Bk m b [lv] 1
  own : Own m0 m 3 L.length (L.flatMap enV) lv
  ext : Ext m0 m
  ge : m0.next ≤ b
  off : ∀ c ∈ vb lv, c ≠ b
theorem LocV.keep {m0 m m' : Mem} {b : Nat} {L : List En} {lv : Value} (h : LocV m0 m b L lv) (hx : Ext m m') : LocV m0 m' b L lv :=
  ⟨h.box.keep hx, h.own.keep hx, h.ext.trans hx, h.ge, h.off⟩

theorem LocV.ld {m0 m : Mem} {b : Nat} {L : List En} {lv : Value} (h : LocV m0 m b L lv) : aLoad false 1 m (.pointer (some ⟨b, 0, none⟩)) = some lv := by
  simp only [go_sem, Bool.false_and, new_set, Int.reduceBEq, Int.reduceBNe, Int.reduceNeg, not_true_eq_false, beq_self_eq_true, bne_self_eq_false, Bool.false_eq_true, if_false, if_true, Int.cast_ofNat_Int, decide_true, decide_false, reduceCtorEq, Nat.reduceEqDiff, Nat.reduceAdd, ne_eq, not_false_eq_true, Option.map_some, Option.bind_some, Option.map_none, Option.bind_none, true_and, and_true, Bool.not_true, Bool.not_false, Nat.reduceLeDiff, Nat.reduceMul, Nat.reduceSub, Nat.le_refl, Int.reduceToNat, Int.reduceLT, Int.reduceLE, Nat.one_mul, Nat.mul_one, load_w, load_a, store_b, idxS_b, set_blk, new_blk, set_next, new_next, len_s, ldW_c, ldA_c, stB_c, toArr_one, size_one, toList_toArr, size_toArr, List.length_cons, List.length_nil, List.getElem?_cons_zero, List.getElem?_cons_succ, Nat.zero_add, Nat.add_zero, h.box.at_]
theorem enFlat {l : List En} : (l.flatMap enV).length = l.length * 3 := flat_len enV_len
theorem enSet {l : List En} {i : Nat} {g : Nat} (hi : i < l.length) : (l.flatMap enV).set (i * 3 + 2) (.int .i64 (g : Nat)) = (l.set i { l[i] with g := g }).flatMap enV := by
  have e : l = l.take i ++ l[i] :: l.drop (i + 1) := by rw [← List.drop_eq_getElem_cons hi, List.take_append_drop]
  have hl : (l.take i).length = i := by rw [List.length_take]; omega
  have e2 : l.set i { l[i] with g := g } = l.take i ++ { l[i] with g := g } :: l.drop (i + 1) := by
    rw [List.set_eq_take_append_cons_drop, if_pos hi]
  rw [e2]
  conv => lhs; rw [e]
  rw [List.flatMap_append, List.flatMap_append, List.flatMap_cons, List.flatMap_cons, List.set_append_right _ _ (by rw [enFlat, hl]; omega), enFlat, hl, Nat.add_sub_cancel_left]
  rfl

/-- What one got is set. -/
theorem LocV.put {m0 m : Mem} {b i : Nat} {L : List En} {lv : Value} {g : Nat} {k : IntKind} (h : LocV m0 m b L lv) (hi : i < L.length) :
    ∃ c m', aIdxS 3 lv (.int k i) = some (.pointer (some ⟨c, i * 3, none⟩)) ∧ aStore 1 m (.pointer (some ⟨c, i * 3 + 2, none⟩)) (.int .i64 (g : Nat)) = some m' ∧ LocV m0 m' b (L.set i { L[i] with g := g }) lv ∧ Upd m m' (vb lv) := by
  obtain ⟨c, m', e1, e2, e3, e4⟩ := h.own.put (k := k) (o := 2) (w := .int .i64 (g : Nat)) h.ext hi (by omega) rfl rfl
  have hcv : c ∈ vb lv := by
    cases h.own with
    | nil h hc => omega
    | @«at» b2 c2 all hb hb2 hn hm hl hcs h1 =>
      simp only [aIdxS] at e1
      split at e1
      · have e1 := Option.some.inj e1
        simp only [Value.pointer.injEq, Option.some.injEq, Addr.mk.injEq] at e1
        rw [← e1.1]; simp [vb]
      · cases e1
  have hw' : aWrite m c (i * 3 + 2) (Value.int .i64 (g : Nat)).cells.toList = some m' := by
    simp only [aStore] at e2
    split at e2
    · exact e2
    · cases e2
  obtain ⟨a1, a2⟩ := aWrite_upd hw'
  have hu : Upd m m' (vb lv) := a1.trans (Upd.refl _ _) (fun x hx => by simp at hx; subst hx; exact hcv) (fun x hx => .inl hx)
  rw [enSet hi] at e3
  refine ⟨c, m', e1, e2, ⟨h.box.upd hu (fun hb => h.off b hb rfl), by rw [List.length_set]; exact e3, e4, h.ge, h.off⟩, hu⟩

def offF (l : List Int) (u : Int) : Bool := decide (u ∈ l)
def bI : Option Nat → Int
  | none => -1
  | some b => b

set_option maxHeartbeats 2000000 in
theorem locPick {m0 : Mem} {b : Nat} {L : List En} {lv ov : Value} {off : List Int} (h : LocV m0 m b L lv) (hS : ∀ e ∈ L, Sm e) (hl : L.length < 1000000) (ho : Sl m 1 off.length (intsZ off) ov) (hob : SlLt m ov) (hol : off.length < 1000000) :
    WC R F.local_Local_Pick [.pointer (some ⟨b, 0, none⟩), ov] m fun r m' =>
      ((bst L (offF off) L.length = none ∧ r = .tuple #[.int .i64 0, .bool false]) ∨ (∃ i, bst L (offF off) L.length = some i ∧ r = .tuple #[.int .i64 L[i]!.u, .bool true])) ∧ LocV m0 m' b (pick L (offF off)) lv := by
  refine WC.of R.local_Local_Pick rfl ?_
  simp only [RC.local_Local_Pick, go_sem, Bool.false_and, new_set, Int.reduceBEq, Int.reduceBNe, Int.reduceNeg, not_true_eq_false, beq_self_eq_true, bne_self_eq_false, Bool.false_eq_true, if_false, if_true, Int.cast_ofNat_Int, decide_true, decide_false, reduceCtorEq, Nat.reduceEqDiff, Nat.reduceAdd, ne_eq, not_false_eq_true, Option.map_some, Option.bind_some, Option.map_none, Option.bind_none, true_and, and_true, Bool.not_true, Bool.not_false, Nat.reduceLeDiff, Nat.reduceMul, Nat.reduceSub, Nat.le_refl, Int.reduceToNat, Int.reduceLT, Int.reduceLE, Nat.one_mul, Nat.mul_one]
  have c1 : aLoad false 1 m (.pointer (some ⟨b, 0, none⟩)) = some lv := by simp only [go_sem, Bool.false_and, new_set, Int.reduceBEq, Int.reduceBNe, Int.reduceNeg, not_true_eq_false, beq_self_eq_true, bne_self_eq_false, Bool.false_eq_true, if_false, if_true, Int.cast_ofNat_Int, decide_true, decide_false, reduceCtorEq, Nat.reduceEqDiff, Nat.reduceAdd, ne_eq, not_false_eq_true, Option.map_some, Option.bind_some, Option.map_none, Option.bind_none, true_and, and_true, Bool.not_true, Bool.not_false, Nat.reduceLeDiff, Nat.reduceMul, Nat.reduceSub, Nat.le_refl, Int.reduceToNat, Int.reduceLT, Int.reduceLE, Nat.one_mul, Nat.mul_one, load_w, load_a, store_b, idxS_b, set_blk, new_blk, set_next, new_next, len_s, ldW_c, ldA_c, stB_c, toArr_one, size_one, toList_toArr, size_toArr, List.length_cons, List.length_nil, List.getElem?_cons_zero, List.getElem?_cons_succ, Nat.zero_add, Nat.add_zero, h.box.at_]
  have hsl := h.own.sl
  have hlt := h.own.lt
  have pos : ∀ e ∈ L, 0 < e.s := fun e he => (hS e he).1
  simp only [go_sem, Bool.false_and, new_set, Int.reduceBEq, Int.reduceBNe, Int.reduceNeg, not_true_eq_false, beq_self_eq_true, bne_self_eq_false, Bool.false_eq_true, if_false, if_true, Int.cast_ofNat_Int, decide_true, decide_false, reduceCtorEq, Nat.reduceEqDiff, Nat.reduceAdd, ne_eq, not_false_eq_true, Option.map_some, Option.bind_some, Option.map_none, Option.bind_none, true_and, and_true, Bool.not_true, Bool.not_false, Nat.reduceLeDiff, Nat.reduceMul, Nat.reduceSub, Nat.le_refl, Int.reduceToNat, Int.reduceLT, Int.reduceLE, Nat.one_mul, Nat.mul_one, c1, hsl.len]
  refine WL.of (fun n e m' => ∃ k : Nat, k ≤ L.length ∧ n = L.length - k ∧ e = [(0, .pointer (some ⟨b, 0, none⟩)), (1, ov), (6, .int .i64 (bI (bst L (offF off) k))), (14, lv), (15, .int .i64 L.length), (16, .int .i64 k)] ∧ Ext m m') L.length
    ⟨0, by omega, by omega, by simp only [go_sem, Bool.false_and, new_set, Int.reduceBEq, Int.reduceBNe, Int.reduceNeg, not_true_eq_false, beq_self_eq_true, bne_self_eq_false, Bool.false_eq_true, if_false, if_true, Int.cast_ofNat_Int, decide_true, decide_false, reduceCtorEq, Nat.reduceEqDiff, Nat.reduceAdd, ne_eq, not_false_eq_true, Option.map_some, Option.bind_some, Option.map_none, Option.bind_none, true_and, and_true, Bool.not_true, Bool.not_false, Nat.reduceLeDiff, Nat.reduceMul, Nat.reduceSub, Nat.le_refl, Int.reduceToNat, Int.reduceLT, Int.reduceLE, Nat.one_mul, Nat.mul_one] <;> rfl, Ext.refl _⟩ ?_
  rintro _ _ m1 ⟨k, hk, rfl, rfl, hx⟩
  have sp := bst_spec (off := offF off) pos k hk
  simp only [RB.local_Local_Pick_1, go_sem, Bool.false_and, new_set, Int.reduceBEq, Int.reduceBNe, Int.reduceNeg, not_true_eq_false, beq_self_eq_true, bne_self_eq_false, Bool.false_eq_true, if_false, if_true, Int.cast_ofNat_Int, decide_true, decide_false, reduceCtorEq, Nat.reduceEqDiff, Nat.reduceAdd, ne_eq, not_false_eq_true, Option.map_some, Option.bind_some, Option.map_none, Option.bind_none, true_and, and_true, Bool.not_true, Bool.not_false, Nat.reduceLeDiff, Nat.reduceMul, Nat.reduceSub, Nat.le_refl, Int.reduceToNat, Int.reduceLT, Int.reduceLE, Nat.one_mul, Nat.mul_one]
  refine gT.of (fun g1' => ?_) (fun g1' => ?_) <;> (have g1 := g1'; try simp only [decide_eq_true_eq, decide_eq_false_iff_not, beq_iff_eq, bne_iff_ne, beq_eq_false_iff_ne, ne_eq, Bool.not_eq_true', Bool.not_eq_false', bne_eq_false_iff_eq, Int.not_lt, Int.not_le] at g1)
  · have hkl : k < L.length := by omega
    have s1 := step1 (show k < 1000000 by omega)
    obtain ⟨p, o, a1, a2, -, -⟩ := (hsl.keep hlt hx).elem enV_len (k := .i64) hkl
    have hSk := hS _ (List.getElem_mem hkl)
    have hbs : bst L (offF off) (k + 1) = if offF off L[k].u then bst L (offF off) k else bs1 L L[k] k (bst L (offF off) k) := by
      conv => lhs; unfold bst
      rw [getElem!_pos L k hkl]
    simp only [go_sem, Bool.false_and, new_set, Int.reduceBEq, Int.reduceBNe, Int.reduceNeg, not_true_eq_false, beq_self_eq_true, bne_self_eq_false, Bool.false_eq_true, if_false, if_true, Int.cast_ofNat_Int, decide_true, decide_false, reduceCtorEq, Nat.reduceEqDiff, Nat.reduceAdd, ne_eq, not_false_eq_true, Option.map_some, Option.bind_some, Option.map_none, Option.bind_none, true_and, and_true, Bool.not_true, Bool.not_false, Nat.reduceLeDiff, Nat.reduceMul, Nat.reduceSub, Nat.le_refl, Int.reduceToNat, Int.reduceLT, Int.reduceLE, Nat.one_mul, Nat.mul_one, g1', a1, a2]
    generalize L[k] = w at hSk hbs ⊢
    have hst : aStore 3 (m1.new (.cells [(.int .i64 0), (.int .i64 0), (.int .i64 0)] (some 3))) (.pointer (some ⟨m1.next, 0, none⟩)) (.agg (enV w).toArray) = some (m1.new (.cells [.int .i64 w.u, .int .i64 w.s, .int .i64 (w.g : Nat)] (some 3))) := by
      simp only [enV]
      simp only [go_sem, Bool.false_and, new_set, Int.reduceBEq, Int.reduceBNe, Int.reduceNeg, not_true_eq_false, beq_self_eq_true, bne_self_eq_false, Bool.false_eq_true, if_false, if_true, Int.cast_ofNat_Int, decide_true, decide_false, reduceCtorEq, Nat.reduceEqDiff, Nat.reduceAdd, ne_eq, not_false_eq_true, Option.map_some, Option.bind_some, Option.map_none, Option.bind_none, true_and, and_true, Bool.not_true, Bool.not_false, Nat.reduceLeDiff, Nat.reduceMul, Nat.reduceSub, Nat.le_refl, Int.reduceToNat, Int.reduceLT, Int.reduceLE, Nat.one_mul, Nat.mul_one, load_w, load_a, store_b, idxS_b, set_blk, new_blk, set_next, new_next, len_s, ldW_c, ldA_c, stB_c, toArr_one, size_one, toList_toArr, size_toArr, List.length_cons, List.length_nil, List.getElem?_cons_zero, List.getElem?_cons_succ, Nat.zero_add, Nat.add_zero]
    simp only [go_sem, Bool.false_and, new_set, Int.reduceBEq, Int.reduceBNe, Int.reduceNeg, not_true_eq_false, beq_self_eq_true, bne_self_eq_false, Bool.false_eq_true, if_false, if_true, Int.cast_ofNat_Int, decide_true, decide_false, reduceCtorEq, Nat.reduceEqDiff, Nat.reduceAdd, ne_eq, not_false_eq_true, Option.map_some, Option.bind_some, Option.map_none, Option.bind_none, true_and, and_true, Bool.not_true, Bool.not_false, Nat.reduceLeDiff, Nat.reduceMul, Nat.reduceSub, Nat.le_refl, Int.reduceToNat, Int.reduceLT, Int.reduceLE, Nat.one_mul, Nat.mul_one, hst]
    have hxx : Ext m1 (m1.new (.cells [.int .i64 w.u, .int .i64 w.s, .int .i64 (w.g : Nat)] (some 3))) := Ext.new
    have hbx : Bk (m1.new (.cells [.int .i64 w.u, .int .i64 w.s, .int .i64 (w.g : Nat)] (some 3))) m1.next [.int .i64 w.u, .int .i64 w.s, .int .i64 (w.g : Nat)] 3 := Bk.new
    generalize m1.new (.cells [.int .i64 w.u, .int .i64 w.s, .int .i64 (w.g : Nat)] (some 3)) = m2 at hbx hxx ⊢
    have hx2 := hx.trans hxx
    have d1 : aLoad false 1 m2 (.pointer (some ⟨m1.next, 0, none⟩)) = some (.int .i64 w.u) := by simp only [go_sem, Bool.false_and, new_set, Int.reduceBEq, Int.reduceBNe, Int.reduceNeg, not_true_eq_false, beq_self_eq_true, bne_self_eq_false, Bool.false_eq_true, if_false, if_true, Int.cast_ofNat_Int, decide_true, decide_false, reduceCtorEq, Nat.reduceEqDiff, Nat.reduceAdd, ne_eq, not_false_eq_true, Option.map_some, Option.bind_some, Option.map_none, Option.bind_none, true_and, and_true, Bool.not_true, Bool.not_false, Nat.reduceLeDiff, Nat.reduceMul, Nat.reduceSub, Nat.le_refl, Int.reduceToNat, Int.reduceLT, Int.reduceLE, Nat.one_mul, Nat.mul_one, load_w, load_a, store_b, idxS_b, set_blk, new_blk, set_next, new_next, len_s, ldW_c, ldA_c, stB_c, toArr_one, size_one, toList_toArr, size_toArr, List.length_cons, List.length_nil, List.getElem?_cons_zero, List.getElem?_cons_succ, Nat.zero_add, Nat.add_zero, hbx.at_]
    have d3 : aLoad true 3 m2 (.pointer (some ⟨m1.next, 0, none⟩)) = some (.agg (enV w).toArray) := by simp only [go_sem, Bool.false_and, new_set, Int.reduceBEq, Int.reduceBNe, Int.reduceNeg, not_true_eq_false, beq_self_eq_true, bne_self_eq_false, Bool.false_eq_true, if_false, if_true, Int.cast_ofNat_Int, decide_true, decide_false, reduceCtorEq, Nat.reduceEqDiff, Nat.reduceAdd, ne_eq, not_false_eq_true, Option.map_some, Option.bind_some, Option.map_none, Option.bind_none, true_and, and_true, Bool.not_true, Bool.not_false, Nat.reduceLeDiff, Nat.reduceMul, Nat.reduceSub, Nat.le_refl, Int.reduceToNat, Int.reduceLT, Int.reduceLE, Nat.one_mul, Nat.mul_one, load_w, load_a, store_b, idxS_b, set_blk, new_blk, set_next, new_next, len_s, ldW_c, ldA_c, stB_c, toArr_one, size_one, toList_toArr, size_toArr, List.length_cons, List.length_nil, List.getElem?_cons_zero, List.getElem?_cons_succ, Nat.zero_add, Nat.add_zero, hbx.at_]; rfl
    simp only [go_sem, Bool.false_and, new_set, Int.reduceBEq, Int.reduceBNe, Int.reduceNeg, not_true_eq_false, beq_self_eq_true, bne_self_eq_false, Bool.false_eq_true, if_false, if_true, Int.cast_ofNat_Int, decide_true, decide_false, reduceCtorEq, Nat.reduceEqDiff, Nat.reduceAdd, ne_eq, not_false_eq_true, Option.map_some, Option.bind_some, Option.map_none, Option.bind_none, true_and, and_true, Bool.not_true, Bool.not_false, Nat.reduceLeDiff, Nat.reduceMul, Nat.reduceSub, Nat.le_refl, Int.reduceToNat, Int.reduceLT, Int.reduceLE, Nat.one_mul, Nat.mul_one, d1]
    refine gC.of (hasInt (ho.keep hob hx2) hol) ?_
    rintro _ _ ⟨rfl, hm⟩
    subst hm
    by_cases g2 : w.u ∈ off
    · have e2 : decide (w.u ∈ off) = true := decide_eq_true g2
      rw [if_pos (by show decide (w.u ∈ off) = true; exact e2)] at hbs
      simp only [go_sem, Bool.false_and, new_set, Int.reduceBEq, Int.reduceBNe, Int.reduceNeg, not_true_eq_false, beq_self_eq_true, bne_self_eq_false, Bool.false_eq_true, if_false, if_true, Int.cast_ofNat_Int, decide_true, decide_false, reduceCtorEq, Nat.reduceEqDiff, Nat.reduceAdd, ne_eq, not_false_eq_true, Option.map_some, Option.bind_some, Option.map_none, Option.bind_none, true_and, and_true, Bool.not_true, Bool.not_false, Nat.reduceLeDiff, Nat.reduceMul, Nat.reduceSub, Nat.le_refl, Int.reduceToNat, Int.reduceLT, Int.reduceLE, Nat.one_mul, Nat.mul_one, e2, s1]
      exact ⟨L.length - (k + 1), by omega, k + 1, by omega, rfl, by rw [hbs], hx2⟩
    · have e2 : decide (w.u ∈ off) = false := decide_eq_false g2
      rw [if_neg (by show ¬ decide (w.u ∈ off) = true; rw [e2]; simp)] at hbs
      cases hb0 : bst L (offF off) k with
      | none =>
        rw [hb0] at hbs
        have e3 : decide (bI none < 0) = true := rfl
        simp only [go_sem, Bool.false_and, new_set, Int.reduceBEq, Int.reduceBNe, Int.reduceNeg, not_true_eq_false, beq_self_eq_true, bne_self_eq_false, Bool.false_eq_true, if_false, if_true, Int.cast_ofNat_Int, decide_true, decide_false, reduceCtorEq, Nat.reduceEqDiff, Nat.reduceAdd, ne_eq, not_false_eq_true, Option.map_some, Option.bind_some, Option.map_none, Option.bind_none, true_and, and_true, Bool.not_true, Bool.not_false, Nat.reduceLeDiff, Nat.reduceMul, Nat.reduceSub, Nat.le_refl, Int.reduceToNat, Int.reduceLT, Int.reduceLE, Nat.one_mul, Nat.mul_one, e2, e3, s1]
        exact ⟨L.length - (k + 1), by omega, k + 1, by omega, rfl, by rw [hbs]; rfl, hx2⟩
      | some i =>
        rw [hb0] at hbs sp
        obtain ⟨i1, -, -⟩ := sp
        have hiL : i < L.length := by omega
        have e3 : decide (bI (some i) < 0) = false := by show decide ((i : Int) < 0) = false; simp
        have c2 := (h.keep hx2).ld
        obtain ⟨p', o', b1, b2, -, -⟩ := (hsl.keep hlt hx2).elem enV_len (k := .i64) hiL
        simp only [bs1] at hbs
        rw [getElem!_pos L i hiL] at hbs
        have hSi := hS _ (List.getElem_mem hiL)
        simp only [bI] at e3 ⊢
        have e3' : decide ((i : Int) < 0) = false := by simp
        simp only [go_sem, Bool.false_and, new_set, Int.reduceBEq, Int.reduceBNe, Int.reduceNeg, not_true_eq_false, beq_self_eq_true, bne_self_eq_false, Bool.false_eq_true, if_false, if_true, Int.cast_ofNat_Int, decide_true, decide_false, reduceCtorEq, Nat.reduceEqDiff, Nat.reduceAdd, ne_eq, not_false_eq_true, Option.map_some, Option.bind_some, Option.map_none, Option.bind_none, true_and, and_true, Bool.not_true, Bool.not_false, Nat.reduceLeDiff, Nat.reduceMul, Nat.reduceSub, Nat.le_refl, Int.reduceToNat, Int.reduceLT, Int.reduceLE, Nat.one_mul, Nat.mul_one, e2, e3', d3, c2, b1, b2]
        refine gC.of (locAhead hSk hSi) ?_
        rintro _ m4 ⟨rfl, hx4⟩
        simp only [go_sem, Bool.false_and, new_set, Int.reduceBEq, Int.reduceBNe, Int.reduceNeg, not_true_eq_false, beq_self_eq_true, bne_self_eq_false, Bool.false_eq_true, if_false, if_true, Int.cast_ofNat_Int, decide_true, decide_false, reduceCtorEq, Nat.reduceEqDiff, Nat.reduceAdd, ne_eq, not_false_eq_true, Option.map_some, Option.bind_some, Option.map_none, Option.bind_none, true_and, and_true, Bool.not_true, Bool.not_false, Nat.reduceLeDiff, Nat.reduceMul, Nat.reduceSub, Nat.le_refl, Int.reduceToNat, Int.reduceLT, Int.reduceLE, Nat.one_mul, Nat.mul_one]
        by_cases g4 : ahd w L[i]
        · have e4 : decide (ahd w L[i]) = true := decide_eq_true g4
          rw [if_pos g4] at hbs
          simp only [go_sem, Bool.false_and, new_set, Int.reduceBEq, Int.reduceBNe, Int.reduceNeg, not_true_eq_false, beq_self_eq_true, bne_self_eq_false, Bool.false_eq_true, if_false, if_true, Int.cast_ofNat_Int, decide_true, decide_false, reduceCtorEq, Nat.reduceEqDiff, Nat.reduceAdd, ne_eq, not_false_eq_true, Option.map_some, Option.bind_some, Option.map_none, Option.bind_none, true_and, and_true, Bool.not_true, Bool.not_false, Nat.reduceLeDiff, Nat.reduceMul, Nat.reduceSub, Nat.le_refl, Int.reduceToNat, Int.reduceLT, Int.reduceLE, Nat.one_mul, Nat.mul_one, e4, s1]
          exact ⟨L.length - (k + 1), by omega, k + 1, by omega, rfl, by rw [hbs], hx2.trans hx4⟩
        · have e4 : decide (ahd w L[i]) = false := decide_eq_false g4
          rw [if_neg g4] at hbs
          simp only [go_sem, Bool.false_and, new_set, Int.reduceBEq, Int.reduceBNe, Int.reduceNeg, not_true_eq_false, beq_self_eq_true, bne_self_eq_false, Bool.false_eq_true, if_false, if_true, Int.cast_ofNat_Int, decide_true, decide_false, reduceCtorEq, Nat.reduceEqDiff, Nat.reduceAdd, ne_eq, not_false_eq_true, Option.map_some, Option.bind_some, Option.map_none, Option.bind_none, true_and, and_true, Bool.not_true, Bool.not_false, Nat.reduceLeDiff, Nat.reduceMul, Nat.reduceSub, Nat.le_refl, Int.reduceToNat, Int.reduceLT, Int.reduceLE, Nat.one_mul, Nat.mul_one, e4, s1]
          exact ⟨L.length - (k + 1), by omega, k + 1, by omega, rfl, by rw [hbs], hx2.trans hx4⟩
  · have : k = L.length := by omega
    subst this
    have hL1 := h.keep hx
    have c2 : aLoad false 1 m1 (.pointer (some ⟨b, 0, none⟩)) = some lv := by
      have := hL1.box.at_
      simp only [go_sem, Bool.false_and, new_set, Int.reduceBEq, Int.reduceBNe, Int.reduceNeg, not_true_eq_false, beq_self_eq_true, bne_self_eq_false, Bool.false_eq_true, if_false, if_true, Int.cast_ofNat_Int, decide_true, decide_false, reduceCtorEq, Nat.reduceEqDiff, Nat.reduceAdd, ne_eq, not_false_eq_true, Option.map_some, Option.bind_some, Option.map_none, Option.bind_none, true_and, and_true, Bool.not_true, Bool.not_false, Nat.reduceLeDiff, Nat.reduceMul, Nat.reduceSub, Nat.le_refl, Int.reduceToNat, Int.reduceLT, Int.reduceLE, Nat.one_mul, Nat.mul_one, load_w, load_a, store_b, idxS_b, set_blk, new_blk, set_next, new_next, len_s, ldW_c, ldA_c, stB_c, toArr_one, size_one, toList_toArr, size_toArr, List.length_cons, List.length_nil, List.getElem?_cons_zero, List.getElem?_cons_succ, Nat.zero_add, Nat.add_zero, this]
    cases hb0 : bst L (offF off) L.length with
    | none =>
      have e3 : decide (bI none < 0) = true := rfl
      simp only [go_sem, Bool.false_and, new_set, Int.reduceBEq, Int.reduceBNe, Int.reduceNeg, not_true_eq_false, beq_self_eq_true, bne_self_eq_false, Bool.false_eq_true, if_false, if_true, Int.cast_ofNat_Int, decide_true, decide_false, reduceCtorEq, Nat.reduceEqDiff, Nat.reduceAdd, ne_eq, not_false_eq_true, Option.map_some, Option.bind_some, Option.map_none, Option.bind_none, true_and, and_true, Bool.not_true, Bool.not_false, Nat.reduceLeDiff, Nat.reduceMul, Nat.reduceSub, Nat.le_refl, Int.reduceToNat, Int.reduceLT, Int.reduceLE, Nat.one_mul, Nat.mul_one, g1', e3]
      have : pick L (offF off) = L := by unfold pick; rw [hb0]
      rw [this]
      exact ⟨.inl trivial, hL1⟩
    | some i =>
      rw [hb0] at sp
      obtain ⟨i1, -, -⟩ := sp
      have e3 : decide (bI (some i) < 0) = false := by show decide ((i : Int) < 0) = false; simp
      rw [pick_some hb0 i1]
      obtain ⟨c, m2, p1, p2, p3, p4⟩ := hL1.put (k := .i64) (g := L[i].g + 1) i1
      have hSi := hS _ (List.getElem_mem i1)
      obtain ⟨p', o', b1, -, b3, -⟩ := hL1.own.sl.elem enV_len (k := .i64) i1
      rw [p1] at b1
      cases b1
      have f2 : aLoad false 1 m1 (.pointer (some ⟨c, i * 3 + 2, none⟩)) = some (.int .i64 (L[i].g : Nat)) := b3 2 (by omega)
      have w := step1 (show L[i].g < 1000000 by have := hSi.2.2; omega)
      have c3 : aLoad false 1 m2 (.pointer (some ⟨b, 0, none⟩)) = some lv := by
        have := p3.box.at_
        simp only [go_sem, Bool.false_and, new_set, Int.reduceBEq, Int.reduceBNe, Int.reduceNeg, not_true_eq_false, beq_self_eq_true, bne_self_eq_false, Bool.false_eq_true, if_false, if_true, Int.cast_ofNat_Int, decide_true, decide_false, reduceCtorEq, Nat.reduceEqDiff, Nat.reduceAdd, ne_eq, not_false_eq_true, Option.map_some, Option.bind_some, Option.map_none, Option.bind_none, true_and, and_true, Bool.not_true, Bool.not_false, Nat.reduceLeDiff, Nat.reduceMul, Nat.reduceSub, Nat.le_refl, Int.reduceToNat, Int.reduceLT, Int.reduceLE, Nat.one_mul, Nat.mul_one, load_w, load_a, store_b, idxS_b, set_blk, new_blk, set_next, new_next, len_s, ldW_c, ldA_c, stB_c, toArr_one, size_one, toList_toArr, size_toArr, List.length_cons, List.length_nil, List.getElem?_cons_zero, List.getElem?_cons_succ, Nat.zero_add, Nat.add_zero, this]
      have hlen2 : i < (L.set i { L[i] with g := L[i].g + 1 }).length := by simpa using i1
      obtain ⟨p', o', b1, -, b4, -⟩ := p3.own.sl.elem enV_len (k := .i64) hlen2
      rw [p1] at b1
      cases b1
      have f0 : aLoad false 1 m2 (.pointer (some ⟨c, i * 3, none⟩)) = some (.int .i64 L[i].u) := by
        have := b4 0 (by omega)
        rw [Nat.add_zero] at this
        rw [this]; simp [enV]
      simp only [bI] at e3 ⊢
      have e3' : decide ((i : Int) < 0) = false := by simp
      simp only [go_sem, Bool.false_and, new_set, Int.reduceBEq, Int.reduceBNe, Int.reduceNeg, not_true_eq_false, beq_self_eq_true, bne_self_eq_false, Bool.false_eq_true, if_false, if_true, Int.cast_ofNat_Int, decide_true, decide_false, reduceCtorEq, Nat.reduceEqDiff, Nat.reduceAdd, ne_eq, not_false_eq_true, Option.map_some, Option.bind_some, Option.map_none, Option.bind_none, true_and, and_true, Bool.not_true, Bool.not_false, Nat.reduceLeDiff, Nat.reduceMul, Nat.reduceSub, Nat.le_refl, Int.reduceToNat, Int.reduceLT, Int.reduceLE, Nat.one_mul, Nat.mul_one, g1', e3', c2, p1, f2, w, p2, c3, f0, Nat.add_zero]
      exact ⟨.inr ⟨i, rfl, by rw [getElem!_pos L i i1]⟩, p3⟩
end Go.Am


/- A local: what one got, a new frame, the wants. -/
set_option linter.unusedVariables false
set_option linter.unusedSimpArgs false
namespace Go.Am
variable {m : Mem}

theorem locFind1 {e : En} {x : Int} {b : Nat} (hb : Bk m b [.int .i64 x] 1) : WC R F.local_Local_find_1 [.agg (enV e).toArray, .pointer (some ⟨b, 0, none⟩)] m fun r m' => r = .bool (e.u == x) ∧ Ext m m' := by
  refine WC.of R.local_Local_find_1 rfl ?_
  simp only [RC.local_Local_find_1, go_sem, Bool.false_and, new_set, Int.reduceBEq, Int.reduceBNe, Int.reduceNeg, not_true_eq_false, beq_self_eq_true, bne_self_eq_false, Bool.false_eq_true, if_false, if_true, Int.cast_ofNat_Int, decide_true, decide_false, reduceCtorEq, Nat.reduceEqDiff, Nat.reduceAdd, ne_eq, not_false_eq_true, Option.map_some, Option.bind_some, Option.map_none, Option.bind_none, true_and, and_true, Bool.not_true, Bool.not_false, Nat.reduceLeDiff, Nat.reduceMul, Nat.reduceSub, Nat.le_refl, Int.reduceToNat, Int.reduceLT, Int.reduceLE, Nat.one_mul, Nat.mul_one, enV]
  have hbn := hb.ne
  try simp only [go_sem, Bool.false_and, new_set, Int.reduceBEq, Int.reduceBNe, Int.reduceNeg, not_true_eq_false, beq_self_eq_true, bne_self_eq_false, Bool.false_eq_true, if_false, if_true, Int.cast_ofNat_Int, decide_true, decide_false, reduceCtorEq, Nat.reduceEqDiff, Nat.reduceAdd, ne_eq, not_false_eq_true, Option.map_some, Option.bind_some, Option.map_none, Option.bind_none, true_and, and_true, Bool.not_true, Bool.not_false, Nat.reduceLeDiff, Nat.reduceMul, Nat.reduceSub, Nat.le_refl, Int.reduceToNat, Int.reduceLT, Int.reduceLE, Nat.one_mul, Nat.mul_one, load_w, load_a, store_b, idxS_b, set_blk, new_blk, set_next, new_next, len_s, ldW_c, ldA_c, stB_c, toArr_one, size_one, toList_toArr, size_toArr, List.length_cons, List.length_nil, List.getElem?_cons_zero, List.getElem?_cons_succ, Nat.zero_add, Nat.add_zero, hb.at_, hbn]
  exact Ext.new

/-- Where a unit is. -/
def ixL (L : List En) (x : Int) : Option Nat := L.findIdx? fun e => e.u == x

theorem locFind {m0 : Mem} {b : Nat} {L : List En} {lv : Value} {x : Int} (h : LocV m0 m b L lv) (hl : L.length < 1000000) :
    WC R F.local_Local_find [.pointer (some ⟨b, 0, none⟩), .int .i64 x] m fun r m' => ((∀ e ∈ L, e.u ≠ x) ∧ r = .int .i64 (-1) ∨ ∃ i : Nat, ∃ h : i < L.length, r = .int .i64 i ∧ L[i].u = x ∧ ∀ j (hj : j < i), (L[j]'(by omega)).u ≠ x) ∧ Ext m m' := by
  refine WC.of R.local_Local_find rfl ?_
  simp only [RC.local_Local_find, go_sem, Bool.false_and, new_set, Int.reduceBEq, Int.reduceBNe, Int.reduceNeg, not_true_eq_false, beq_self_eq_true, bne_self_eq_false, Bool.false_eq_true, if_false, if_true, Int.cast_ofNat_Int, decide_true, decide_false, reduceCtorEq, Nat.reduceEqDiff, Nat.reduceAdd, ne_eq, not_false_eq_true, Option.map_some, Option.bind_some, Option.map_none, Option.bind_none, true_and, and_true, Bool.not_true, Bool.not_false, Nat.reduceLeDiff, Nat.reduceMul, Nat.reduceSub, Nat.le_refl, Int.reduceToNat, Int.reduceLT, Int.reduceLE, Nat.one_mul, Nat.mul_one]
  have hx1 : Ext m (m.new (.cells [.int .i64 x] (some 1))) := Ext.new
  have hb1 : Bk (m.new (.cells [.int .i64 x] (some 1))) m.next [.int .i64 x] 1 := Bk.new
  generalize m.new (.cells [.int .i64 x] (some 1)) = m1 at hx1 hb1 ⊢
  have h1 := h.keep hx1
  have c1 := h1.ld
  try simp only [go_sem, Bool.false_and, new_set, Int.reduceBEq, Int.reduceBNe, Int.reduceNeg, not_true_eq_false, beq_self_eq_true, bne_self_eq_false, Bool.false_eq_true, if_false, if_true, Int.cast_ofNat_Int, decide_true, decide_false, reduceCtorEq, Nat.reduceEqDiff, Nat.reduceAdd, ne_eq, not_false_eq_true, Option.map_some, Option.bind_some, Option.map_none, Option.bind_none, true_and, and_true, Bool.not_true, Bool.not_false, Nat.reduceLeDiff, Nat.reduceMul, Nat.reduceSub, Nat.le_refl, Int.reduceToNat, Int.reduceLT, Int.reduceLE, Nat.one_mul, Nat.mul_one, c1]
  refine gC.of (le_Index (p := fun e => e.u == x) enV_len h1.own.sl h1.own.lt hl (fun m2 s hx2 => ?_)) ?_
  · rw [gV_cap]
    exact locFind1 (hb1.keep hx2)
  · rintro _ m2 ⟨⟨h2, rfl⟩ | ⟨i, hi, rfl, h2, h3⟩, hx2⟩
    · simp only [go_sem, Bool.false_and, new_set, Int.reduceBEq, Int.reduceBNe, Int.reduceNeg, not_true_eq_false, beq_self_eq_true, bne_self_eq_false, Bool.false_eq_true, if_false, if_true, Int.cast_ofNat_Int, decide_true, decide_false, reduceCtorEq, Nat.reduceEqDiff, Nat.reduceAdd, ne_eq, not_false_eq_true, Option.map_some, Option.bind_some, Option.map_none, Option.bind_none, true_and, and_true, Bool.not_true, Bool.not_false, Nat.reduceLeDiff, Nat.reduceMul, Nat.reduceSub, Nat.le_refl, Int.reduceToNat, Int.reduceLT, Int.reduceLE, Nat.one_mul, Nat.mul_one]
      refine ⟨.inl fun e he => ?_, hx1.trans hx2⟩
      have := List.any_eq_false.1 h2 e he
      simpa using this
    · simp only [go_sem, Bool.false_and, new_set, Int.reduceBEq, Int.reduceBNe, Int.reduceNeg, not_true_eq_false, beq_self_eq_true, bne_self_eq_false, Bool.false_eq_true, if_false, if_true, Int.cast_ofNat_Int, decide_true, decide_false, reduceCtorEq, Nat.reduceEqDiff, Nat.reduceAdd, ne_eq, not_false_eq_true, Option.map_some, Option.bind_some, Option.map_none, Option.bind_none, true_and, and_true, Bool.not_true, Bool.not_false, Nat.reduceLeDiff, Nat.reduceMul, Nat.reduceSub, Nat.le_refl, Int.reduceToNat, Int.reduceLT, Int.reduceLE, Nat.one_mul, Nat.mul_one]
      refine ⟨.inr ⟨i, hi, rfl, by simpa using h2, fun j hj => by simpa using h3 j hj⟩, hx1.trans hx2⟩

theorem locGot {m0 : Mem} {b : Nat} {L : List En} {lv : Value} {x : Int} (h : LocV m0 m b L lv) (hl : L.length < 1000000) :
    WC R F.local_Local_Got [.pointer (some ⟨b, 0, none⟩), .int .i64 x] m fun r m' => ((∀ e ∈ L, e.u ≠ x) ∧ r = .tuple #[.int .i64 0, .bool false] ∨ ∃ i : Nat, ∃ h : i < L.length, r = .tuple #[.int .i64 (L[i].g : Nat), .bool true] ∧ L[i].u = x) ∧ Ext m m' := by
  refine WC.of R.local_Local_Got rfl ?_
  simp only [RC.local_Local_Got, go_sem, Bool.false_and, new_set, Int.reduceBEq, Int.reduceBNe, Int.reduceNeg, not_true_eq_false, beq_self_eq_true, bne_self_eq_false, Bool.false_eq_true, if_false, if_true, Int.cast_ofNat_Int, decide_true, decide_false, reduceCtorEq, Nat.reduceEqDiff, Nat.reduceAdd, ne_eq, not_false_eq_true, Option.map_some, Option.bind_some, Option.map_none, Option.bind_none, true_and, and_true, Bool.not_true, Bool.not_false, Nat.reduceLeDiff, Nat.reduceMul, Nat.reduceSub, Nat.le_refl, Int.reduceToNat, Int.reduceLT, Int.reduceLE, Nat.one_mul, Nat.mul_one]
  refine gC.of (locFind h hl) ?_
  rintro _ m1 ⟨⟨h2, rfl⟩ | ⟨i, hi, rfl, h2, h3⟩, hx⟩
  · have e : decide ((-1 : Int) < 0) = true := rfl
    simp only [go_sem, Bool.false_and, new_set, Int.reduceBEq, Int.reduceBNe, Int.reduceNeg, not_true_eq_false, beq_self_eq_true, bne_self_eq_false, Bool.false_eq_true, if_false, if_true, Int.cast_ofNat_Int, decide_true, decide_false, reduceCtorEq, Nat.reduceEqDiff, Nat.reduceAdd, ne_eq, not_false_eq_true, Option.map_some, Option.bind_some, Option.map_none, Option.bind_none, true_and, and_true, Bool.not_true, Bool.not_false, Nat.reduceLeDiff, Nat.reduceMul, Nat.reduceSub, Nat.le_refl, Int.reduceToNat, Int.reduceLT, Int.reduceLE, Nat.one_mul, Nat.mul_one, e]
    exact ⟨.inl h2, hx⟩
  · have e : decide ((i : Int) < 0) = false := by simp
    have h1 := h.keep hx
    have c1 := h1.ld
    obtain ⟨p, o, a1, -, a3, -⟩ := h1.own.sl.elem enV_len (k := .i64) hi
    have c2 : aLoad false 1 m1 (.pointer (some ⟨p, o + 2, none⟩)) = some (.int .i64 (L[i].g : Nat)) := a3 2 (by omega)
    simp only [go_sem, Bool.false_and, new_set, Int.reduceBEq, Int.reduceBNe, Int.reduceNeg, not_true_eq_false, beq_self_eq_true, bne_self_eq_false, Bool.false_eq_true, if_false, if_true, Int.cast_ofNat_Int, decide_true, decide_false, reduceCtorEq, Nat.reduceEqDiff, Nat.reduceAdd, ne_eq, not_false_eq_true, Option.map_some, Option.bind_some, Option.map_none, Option.bind_none, true_and, and_true, Bool.not_true, Bool.not_false, Nat.reduceLeDiff, Nat.reduceMul, Nat.reduceSub, Nat.le_refl, Int.reduceToNat, Int.reduceLT, Int.reduceLE, Nat.one_mul, Nat.mul_one, e, c1, a1, c2]
    exact ⟨.inr ⟨i, hi, rfl, h2⟩, hx⟩

def zeroL (L : List En) (k : Nat) : List En := (L.take k).map (fun e => { e with g := 0 }) ++ L.drop k
theorem zeroL_succ {L : List En} {k : Nat} (hk : k < L.length) : (zeroL L k).set k { L[k] with g := 0 } = zeroL L (k + 1) := by
  unfold zeroL
  have hl : ((L.take k).map (fun e => { e with g := 0 })).length = k := by simp; omega
  rw [List.set_append_right _ _ (by omega), hl, Nat.sub_self, List.drop_eq_getElem_cons hk, List.set_cons_zero, List.take_succ_eq_append_getElem hk, List.map_append, List.append_assoc]
  rfl
theorem zeroL_len {L : List En} {k : Nat} : (zeroL L k).length = L.length := by
  unfold zeroL; simp; omega

theorem locBegin {m0 : Mem} {b : Nat} {L : List En} {lv : Value} (h : LocV m0 m b L lv) (hl : L.length < 1000000) :
    WC R F.local_Local_Begin [.pointer (some ⟨b, 0, none⟩)] m fun r m' => LocV m0 m' b (L.map fun e => { e with g := 0 }) lv := by
  refine WC.of R.local_Local_Begin rfl ?_
  simp only [RC.local_Local_Begin, go_sem, Bool.false_and, new_set, Int.reduceBEq, Int.reduceBNe, Int.reduceNeg, not_true_eq_false, beq_self_eq_true, bne_self_eq_false, Bool.false_eq_true, if_false, if_true, Int.cast_ofNat_Int, decide_true, decide_false, reduceCtorEq, Nat.reduceEqDiff, Nat.reduceAdd, ne_eq, not_false_eq_true, Option.map_some, Option.bind_some, Option.map_none, Option.bind_none, true_and, and_true, Bool.not_true, Bool.not_false, Nat.reduceLeDiff, Nat.reduceMul, Nat.reduceSub, Nat.le_refl, Int.reduceToNat, Int.reduceLT, Int.reduceLE, Nat.one_mul, Nat.mul_one]
  have c1 := h.ld
  simp only [go_sem, Bool.false_and, new_set, Int.reduceBEq, Int.reduceBNe, Int.reduceNeg, not_true_eq_false, beq_self_eq_true, bne_self_eq_false, Bool.false_eq_true, if_false, if_true, Int.cast_ofNat_Int, decide_true, decide_false, reduceCtorEq, Nat.reduceEqDiff, Nat.reduceAdd, ne_eq, not_false_eq_true, Option.map_some, Option.bind_some, Option.map_none, Option.bind_none, true_and, and_true, Bool.not_true, Bool.not_false, Nat.reduceLeDiff, Nat.reduceMul, Nat.reduceSub, Nat.le_refl, Int.reduceToNat, Int.reduceLT, Int.reduceLE, Nat.one_mul, Nat.mul_one, c1, h.own.sl.len]
  refine WL.of (fun n e m' => ∃ k : Nat, k ≤ L.length ∧ n = L.length - k ∧ e = [(0, .pointer (some ⟨b, 0, none⟩)), (9, .int .i64 L.length), (10, .int .i64 k)] ∧ LocV m0 m' b (zeroL L k) lv) L.length
    ⟨0, by omega, by omega, by simp only [go_sem, Bool.false_and, new_set, Int.reduceBEq, Int.reduceBNe, Int.reduceNeg, not_true_eq_false, beq_self_eq_true, bne_self_eq_false, Bool.false_eq_true, if_false, if_true, Int.cast_ofNat_Int, decide_true, decide_false, reduceCtorEq, Nat.reduceEqDiff, Nat.reduceAdd, ne_eq, not_false_eq_true, Option.map_some, Option.bind_some, Option.map_none, Option.bind_none, true_and, and_true, Bool.not_true, Bool.not_false, Nat.reduceLeDiff, Nat.reduceMul, Nat.reduceSub, Nat.le_refl, Int.reduceToNat, Int.reduceLT, Int.reduceLE, Nat.one_mul, Nat.mul_one] <;> rfl, by simpa [zeroL] using h⟩ ?_
  rintro _ _ m1 ⟨k, hk, rfl, rfl, h1⟩
  simp only [RB.local_Local_Begin_1, go_sem, Bool.false_and, new_set, Int.reduceBEq, Int.reduceBNe, Int.reduceNeg, not_true_eq_false, beq_self_eq_true, bne_self_eq_false, Bool.false_eq_true, if_false, if_true, Int.cast_ofNat_Int, decide_true, decide_false, reduceCtorEq, Nat.reduceEqDiff, Nat.reduceAdd, ne_eq, not_false_eq_true, Option.map_some, Option.bind_some, Option.map_none, Option.bind_none, true_and, and_true, Bool.not_true, Bool.not_false, Nat.reduceLeDiff, Nat.reduceMul, Nat.reduceSub, Nat.le_refl, Int.reduceToNat, Int.reduceLT, Int.reduceLE, Nat.one_mul, Nat.mul_one]
  refine gT.of (fun g1' => ?_) (fun g1' => ?_) <;> (have g1 := g1'; try simp only [decide_eq_true_eq, decide_eq_false_iff_not, beq_iff_eq, bne_iff_ne, beq_eq_false_iff_ne, ne_eq, Bool.not_eq_true', Bool.not_eq_false', bne_eq_false_iff_eq, Int.not_lt, Int.not_le] at g1)
  · have hkl : k < L.length := by omega
    have s1 := step1 (show k < 1000000 by omega)
    have hkz : k < (zeroL L k).length := by rw [zeroL_len]; exact hkl
    obtain ⟨c, m2, p1, p2, p3, p4⟩ := h1.put (k := .i64) (g := 0) hkz
    have hzk : (zeroL L k)[k] = L[k] := by
      have : (zeroL L k)[k]? = some L[k] := by
        unfold zeroL
        rw [List.getElem?_append_right (by simp; omega)]
        have : ((L.take k).map (fun e => { e with g := 0 })).length = k := by simp; omega
        rw [this, Nat.sub_self, List.drop_eq_getElem_cons hkl]; rfl
      exact (List.getElem_eq_iff hkz).2 this
    rw [hzk, zeroL_succ hkl] at p3
    have c2 := h1.ld
    simp only [go_sem, Bool.false_and, new_set, Int.reduceBEq, Int.reduceBNe, Int.reduceNeg, not_true_eq_false, beq_self_eq_true, bne_self_eq_false, Bool.false_eq_true, if_false, if_true, Int.cast_ofNat_Int, decide_true, decide_false, reduceCtorEq, Nat.reduceEqDiff, Nat.reduceAdd, ne_eq, not_false_eq_true, Option.map_some, Option.bind_some, Option.map_none, Option.bind_none, true_and, and_true, Bool.not_true, Bool.not_false, Nat.reduceLeDiff, Nat.reduceMul, Nat.reduceSub, Nat.le_refl, Int.reduceToNat, Int.reduceLT, Int.reduceLE, Nat.one_mul, Nat.mul_one, g1', c2, p1]
    simp only [Int.cast_ofNat_Int] at p2
    simp only [go_sem, Bool.false_and, new_set, Int.reduceBEq, Int.reduceBNe, Int.reduceNeg, not_true_eq_false, beq_self_eq_true, bne_self_eq_false, Bool.false_eq_true, if_false, if_true, Int.cast_ofNat_Int, decide_true, decide_false, reduceCtorEq, Nat.reduceEqDiff, Nat.reduceAdd, ne_eq, not_false_eq_true, Option.map_some, Option.bind_some, Option.map_none, Option.bind_none, true_and, and_true, Bool.not_true, Bool.not_false, Nat.reduceLeDiff, Nat.reduceMul, Nat.reduceSub, Nat.le_refl, Int.reduceToNat, Int.reduceLT, Int.reduceLE, Nat.one_mul, Nat.mul_one, p2, s1]
    exact ⟨L.length - (k + 1), by omega, k + 1, by omega, rfl, rfl, p3⟩
  · have : k = L.length := by omega
    subst this
    simp only [go_sem, Bool.false_and, new_set, Int.reduceBEq, Int.reduceBNe, Int.reduceNeg, not_true_eq_false, beq_self_eq_true, bne_self_eq_false, Bool.false_eq_true, if_false, if_true, Int.cast_ofNat_Int, decide_true, decide_false, reduceCtorEq, Nat.reduceEqDiff, Nat.reduceAdd, ne_eq, not_false_eq_true, Option.map_some, Option.bind_some, Option.map_none, Option.bind_none, true_and, and_true, Bool.not_true, Bool.not_false, Nat.reduceLeDiff, Nat.reduceMul, Nat.reduceSub, Nat.le_refl, Int.reduceToNat, Int.reduceLT, Int.reduceLE, Nat.one_mul, Nat.mul_one, g1']
    have e : zeroL L L.length = L.map fun e => { e with g := 0 } := by unfold zeroL; simp
    rw [e] at h1
    exact h1

def wts (L : List En) : List Sp := L.map fun e => (e.u, e.s)

theorem locWants {m0 : Mem} {b : Nat} {L : List En} {lv : Value} (h : LocV m0 m b L lv) (hl : L.length < 1000000) :
    WC R F.local_Local_Wants [.pointer (some ⟨b, 0, none⟩)] m fun r m' => Own m m' 2 (wts L).length ((wts L).flatMap spV) r ∧ Ext m m' := by
  refine WC.of R.local_Local_Wants rfl ?_
  simp only [RC.local_Local_Wants, go_sem, Bool.false_and, new_set, Int.reduceBEq, Int.reduceBNe, Int.reduceNeg, not_true_eq_false, beq_self_eq_true, bne_self_eq_false, Bool.false_eq_true, if_false, if_true, Int.cast_ofNat_Int, decide_true, decide_false, reduceCtorEq, Nat.reduceEqDiff, Nat.reduceAdd, ne_eq, not_false_eq_true, Option.map_some, Option.bind_some, Option.map_none, Option.bind_none, true_and, and_true, Bool.not_true, Bool.not_false, Nat.reduceLeDiff, Nat.reduceMul, Nat.reduceSub, Nat.le_refl, Int.reduceToNat, Int.reduceLT, Int.reduceLE, Nat.one_mul, Nat.mul_one]
  have c1 := h.ld
  have hsl := h.own.sl
  have hlt := h.own.lt
  simp only [go_sem, Bool.false_and, new_set, Int.reduceBEq, Int.reduceBNe, Int.reduceNeg, not_true_eq_false, beq_self_eq_true, bne_self_eq_false, Bool.false_eq_true, if_false, if_true, Int.cast_ofNat_Int, decide_true, decide_false, reduceCtorEq, Nat.reduceEqDiff, Nat.reduceAdd, ne_eq, not_false_eq_true, Option.map_some, Option.bind_some, Option.map_none, Option.bind_none, true_and, and_true, Bool.not_true, Bool.not_false, Nat.reduceLeDiff, Nat.reduceMul, Nat.reduceSub, Nat.le_refl, Int.reduceToNat, Int.reduceLT, Int.reduceLE, Nat.one_mul, Nat.mul_one, c1, hsl.len]
  refine WL.of (fun n e m' => ∃ (k : Nat) (rv : Value), k ≤ L.length ∧ n = L.length - k ∧ e = [(3, rv), (11, lv), (12, .int .i64 L.length), (13, .int .i64 k)] ∧ Own m m' 2 (wts (L.take k)).length ((wts (L.take k)).flatMap spV) rv ∧ Ext m m') L.length
    ⟨0, .slice none 0 0, by omega, by omega, by simp only [go_sem, Bool.false_and, new_set, Int.reduceBEq, Int.reduceBNe, Int.reduceNeg, not_true_eq_false, beq_self_eq_true, bne_self_eq_false, Bool.false_eq_true, if_false, if_true, Int.cast_ofNat_Int, decide_true, decide_false, reduceCtorEq, Nat.reduceEqDiff, Nat.reduceAdd, ne_eq, not_false_eq_true, Option.map_some, Option.bind_some, Option.map_none, Option.bind_none, true_and, and_true, Bool.not_true, Bool.not_false, Nat.reduceLeDiff, Nat.reduceMul, Nat.reduceSub, Nat.le_refl, Int.reduceToNat, Int.reduceLT, Int.reduceLE, Nat.one_mul, Nat.mul_one] <;> rfl, .nil rfl rfl, Ext.refl _⟩ ?_
  rintro _ _ m1 ⟨k, rv, hk, rfl, rfl, hO, hx⟩
  simp only [RB.local_Local_Wants_1, go_sem, Bool.false_and, new_set, Int.reduceBEq, Int.reduceBNe, Int.reduceNeg, not_true_eq_false, beq_self_eq_true, bne_self_eq_false, Bool.false_eq_true, if_false, if_true, Int.cast_ofNat_Int, decide_true, decide_false, reduceCtorEq, Nat.reduceEqDiff, Nat.reduceAdd, ne_eq, not_false_eq_true, Option.map_some, Option.bind_some, Option.map_none, Option.bind_none, true_and, and_true, Bool.not_true, Bool.not_false, Nat.reduceLeDiff, Nat.reduceMul, Nat.reduceSub, Nat.le_refl, Int.reduceToNat, Int.reduceLT, Int.reduceLE, Nat.one_mul, Nat.mul_one]
  refine gT.of (fun g1' => ?_) (fun g1' => ?_) <;> (have g1 := g1'; try simp only [decide_eq_true_eq, decide_eq_false_iff_not, beq_iff_eq, bne_iff_ne, beq_eq_false_iff_ne, ne_eq, Bool.not_eq_true', Bool.not_eq_false', bne_eq_false_iff_eq, Int.not_lt, Int.not_le] at g1)
  · have hkl : k < L.length := by omega
    have s1 := step1 (show k < 1000000 by omega)
    obtain ⟨p, o, a1, a2, -, -⟩ := (hsl.keep hlt hx).elem enV_len (k := .i64) hkl
    have tk : wts (L.take (k + 1)) = wts (L.take k) ++ [(L[k].u, L[k].s)] := by
      unfold wts; rw [List.take_succ_eq_append_getElem hkl, List.map_append]; rfl
    have hwl : (wts (L.take k)).length = k := by unfold wts; simp; omega
    simp only [go_sem, Bool.false_and, new_set, Int.reduceBEq, Int.reduceBNe, Int.reduceNeg, not_true_eq_false, beq_self_eq_true, bne_self_eq_false, Bool.false_eq_true, if_false, if_true, Int.cast_ofNat_Int, decide_true, decide_false, reduceCtorEq, Nat.reduceEqDiff, Nat.reduceAdd, ne_eq, not_false_eq_true, Option.map_some, Option.bind_some, Option.map_none, Option.bind_none, true_and, and_true, Bool.not_true, Bool.not_false, Nat.reduceLeDiff, Nat.reduceMul, Nat.reduceSub, Nat.le_refl, Int.reduceToNat, Int.reduceLT, Int.reduceLE, Nat.one_mul, Nat.mul_one, g1', a1, a2]
    generalize L[k] = w at tk ⊢
    have hst : aStore 3 (m1.new (.cells [(.int .i64 0), (.int .i64 0), (.int .i64 0)] (some 3))) (.pointer (some ⟨m1.next, 0, none⟩)) (.agg (enV w).toArray) = some (m1.new (.cells [.int .i64 w.u, .int .i64 w.s, .int .i64 (w.g : Nat)] (some 3))) := by
      simp only [enV]
      simp only [go_sem, Bool.false_and, new_set, Int.reduceBEq, Int.reduceBNe, Int.reduceNeg, not_true_eq_false, beq_self_eq_true, bne_self_eq_false, Bool.false_eq_true, if_false, if_true, Int.cast_ofNat_Int, decide_true, decide_false, reduceCtorEq, Nat.reduceEqDiff, Nat.reduceAdd, ne_eq, not_false_eq_true, Option.map_some, Option.bind_some, Option.map_none, Option.bind_none, true_and, and_true, Bool.not_true, Bool.not_false, Nat.reduceLeDiff, Nat.reduceMul, Nat.reduceSub, Nat.le_refl, Int.reduceToNat, Int.reduceLT, Int.reduceLE, Nat.one_mul, Nat.mul_one, load_w, load_a, store_b, idxS_b, set_blk, new_blk, set_next, new_next, len_s, ldW_c, ldA_c, stB_c, toArr_one, size_one, toList_toArr, size_toArr, List.length_cons, List.length_nil, List.getElem?_cons_zero, List.getElem?_cons_succ, Nat.zero_add, Nat.add_zero]
    simp only [go_sem, Bool.false_and, new_set, Int.reduceBEq, Int.reduceBNe, Int.reduceNeg, not_true_eq_false, beq_self_eq_true, bne_self_eq_false, Bool.false_eq_true, if_false, if_true, Int.cast_ofNat_Int, decide_true, decide_false, reduceCtorEq, Nat.reduceEqDiff, Nat.reduceAdd, ne_eq, not_false_eq_true, Option.map_some, Option.bind_some, Option.map_none, Option.bind_none, true_and, and_true, Bool.not_true, Bool.not_false, Nat.reduceLeDiff, Nat.reduceMul, Nat.reduceSub, Nat.le_refl, Int.reduceToNat, Int.reduceLT, Int.reduceLE, Nat.one_mul, Nat.mul_one, hst]
    have hxx : Ext m1 (m1.new (.cells [.int .i64 w.u, .int .i64 w.s, .int .i64 (w.g : Nat)] (some 3))) := Ext.new
    have hbx : Bk (m1.new (.cells [.int .i64 w.u, .int .i64 w.s, .int .i64 (w.g : Nat)] (some 3))) m1.next [.int .i64 w.u, .int .i64 w.s, .int .i64 (w.g : Nat)] 3 := Bk.new
    generalize m1.new (.cells [.int .i64 w.u, .int .i64 w.s, .int .i64 (w.g : Nat)] (some 3)) = m2 at hbx hxx ⊢
    have d3 : aLoad true 2 m2 (.pointer (some ⟨m1.next, 0, none⟩)) = some (.agg (spV (w.u, w.s)).toArray) := by simp only [go_sem, Bool.false_and, new_set, Int.reduceBEq, Int.reduceBNe, Int.reduceNeg, not_true_eq_false, beq_self_eq_true, bne_self_eq_false, Bool.false_eq_true, if_false, if_true, Int.cast_ofNat_Int, decide_true, decide_false, reduceCtorEq, Nat.reduceEqDiff, Nat.reduceAdd, ne_eq, not_false_eq_true, Option.map_some, Option.bind_some, Option.map_none, Option.bind_none, true_and, and_true, Bool.not_true, Bool.not_false, Nat.reduceLeDiff, Nat.reduceMul, Nat.reduceSub, Nat.le_refl, Int.reduceToNat, Int.reduceLT, Int.reduceLE, Nat.one_mul, Nat.mul_one, load_w, load_a, store_b, idxS_b, set_blk, new_blk, set_next, new_next, len_s, ldW_c, ldA_c, stB_c, toArr_one, size_one, toList_toArr, size_toArr, List.length_cons, List.length_nil, List.getElem?_cons_zero, List.getElem?_cons_succ, Nat.zero_add, Nat.add_zero, hbx.at_]; rfl
    obtain ⟨va, ma, ea1, ea2, ea3⟩ := (hO.keep hxx).app (by_ := 16) (es := spV (w.u, w.s)) (hx.trans hxx) (by omega) rfl rfl (by omega) (by omega)
    simp only [go_sem, Bool.false_and, new_set, Int.reduceBEq, Int.reduceBNe, Int.reduceNeg, not_true_eq_false, beq_self_eq_true, bne_self_eq_false, Bool.false_eq_true, if_false, if_true, Int.cast_ofNat_Int, decide_true, decide_false, reduceCtorEq, Nat.reduceEqDiff, Nat.reduceAdd, ne_eq, not_false_eq_true, Option.map_some, Option.bind_some, Option.map_none, Option.bind_none, true_and, and_true, Bool.not_true, Bool.not_false, Nat.reduceLeDiff, Nat.reduceMul, Nat.reduceSub, Nat.le_refl, Int.reduceToNat, Int.reduceLT, Int.reduceLE, Nat.one_mul, Nat.mul_one, d3]
    refine ⟨rfl, rfl, ?_⟩
    have pad : spV (w.u, w.s) ++ List.drop (spV (w.u, w.s)).length [Value.int IntKind.i64 0, Value.int IntKind.i64 0] = spV (w.u, w.s) := rfl
    rw [pad, ea1]
    simp only [go_sem, Bool.false_and, new_set, Int.reduceBEq, Int.reduceBNe, Int.reduceNeg, not_true_eq_false, beq_self_eq_true, bne_self_eq_false, Bool.false_eq_true, if_false, if_true, Int.cast_ofNat_Int, decide_true, decide_false, reduceCtorEq, Nat.reduceEqDiff, Nat.reduceAdd, ne_eq, not_false_eq_true, Option.map_some, Option.bind_some, Option.map_none, Option.bind_none, true_and, and_true, Bool.not_true, Bool.not_false, Nat.reduceLeDiff, Nat.reduceMul, Nat.reduceSub, Nat.le_refl, Int.reduceToNat, Int.reduceLT, Int.reduceLE, Nat.one_mul, Nat.mul_one, s1]
    refine ⟨L.length - (k + 1), by omega, k + 1, va, by omega, rfl, rfl, ?_, ea3⟩
    rw [tk, List.length_append, List.flatMap_append]
    simpa using ea2
  · have : k = L.length := by omega
    subst this
    rw [List.take_length] at hO
    simp only [go_sem, Bool.false_and, new_set, Int.reduceBEq, Int.reduceBNe, Int.reduceNeg, not_true_eq_false, beq_self_eq_true, bne_self_eq_false, Bool.false_eq_true, if_false, if_true, Int.cast_ofNat_Int, decide_true, decide_false, reduceCtorEq, Nat.reduceEqDiff, Nat.reduceAdd, ne_eq, not_false_eq_true, Option.map_some, Option.bind_some, Option.map_none, Option.bind_none, true_and, and_true, Bool.not_true, Bool.not_false, Nat.reduceLeDiff, Nat.reduceMul, Nat.reduceSub, Nat.le_refl, Int.reduceToNat, Int.reduceLT, Int.reduceLE, Nat.one_mul, Nat.mul_one, g1']
    exact ⟨hO, hx⟩
end Go.Am


/- A local: made of wants. -/
set_option linter.unusedVariables false
set_option linter.unusedSimpArgs false
namespace Go.Am
variable {m : Mem}

theorem LocV.appD {m0 m : Mem} {b N s t : Nat} {L : List En} {lv : Value} {e : En} (h : LocV m0 m b L lv) (hl : L.length < 100000) (hs : s < N) (ht : t < N) :
    ∃ v' m' m'', aApp (some (m.next + t)) 3 24 ((m.bump N).set (m.next + s) (some (.cells (enV e) (some 3)))) lv (.slice (some ⟨m.next + s, 0, none⟩) 1 1) = some (v', m') ∧
      aStore 1 m' (.pointer (some ⟨b, 0, none⟩)) v' = some m'' ∧ LocV m0 m'' b (L ++ [e]) v' := by
  obtain ⟨v', m', e1, e2, e3⟩ := h.own.appD (by_ := 24) (es := enV e) h.ext rfl rfl (by omega) (by omega) hs ht
  have hx : Ext m ((m.bump N).set (m.next + s) (some (.cells (enV e) (some 3)))) := Ext.set ⟨by simp, fun b hb => rfl⟩ (by omega)
  obtain ⟨a1, a2, a3⟩ := app_updA (M := m.next) e1 (fun k hk => by cases hk; omega) hx.next
  have hbn := h.box.lt
  have hbm : m'.blk b = some (.cells [lv] (some 1)) := by
    rw [a2 b hbn (fun hb => h.off b hb rfl), hx.same b hbn]; exact h.box.at_
  have hvb : ∀ c ∈ vb v', c ≠ b := fun c hc => by
    rcases a3 with e | ⟨k, e, hk⟩
    · rw [e] at hc; exact h.off c hc
    · rw [e] at hc; simp at hc; omega
  have hsl := e2.sl
  have hst : aStore 1 m' (.pointer (some ⟨b, 0, none⟩)) v' = some (m'.set b (some (.cells [v'] (some 1)))) := by
    simp only [aStore, hsl.cells]
    simp only [aWrite, hbm]
    have h1 : v'.oneCell' = true := hsl.one
    have : oneCells [v'] = true := by unfold oneCells; simp [h1]
    simp [this, writeL]
  have hu : Upd m' (m'.set b (some (.cells [v'] (some 1)))) [b] := Upd.set (by simp)
  refine ⟨v', m', _, e1, hst, ⟨by simp [Mem.set], ?_⟩, ?_, hu.ext_of e3 (by simpa using h.ge), h.ge, hvb⟩
  · have := hx.next
    show b < m'.next
    omega
  · have e4 : Own m0 m' 3 (L ++ [e]).length ((L ++ [e]).flatMap enV) v' := by
      rw [List.length_append, List.flatMap_append]; simpa using e2
    cases e4 with
    | nil h hc => exact .nil h hc
    | @«at» c2 c all hb hb2 hn hm hl hcs h1 =>
      refine .at hb (Nat.lt_of_lt_of_le hb2 hu.next) hn ?_ hl hcs h1
      rw [hu.same c2 hb2 (by simpa [vb] using hvb c2 (by simp [vb]))]; exact hm

def ent (w : Sp) : En := ⟨w.1, w.2, 0⟩

/-- Why there is none; 0: there is one. -/
noncomputable def newE (f : Int) (l : List Sp) : Int := if chkA f l = 0 then (match totO 0 l with | none => 12 | some n => if f < n then 12 else 0) else chkA f l

set_option maxHeartbeats 2000000 in
theorem locNew {l : List Sp} {v : Value} {f : Int} (hs : Sl m 2 l.length (l.flatMap spV) v) (hb : SlLt m v) (hl : l.length < 10000) (hr : ∀ w ∈ l, inR w.2) :
    WC R F.local_New [.int .i64 f, v] m fun r m' => (newE f l ≠ 0 ∧ r = .tuple #[.pointer none, .int .i64 (newE f l)] ∧ Ext m m') ∨
      (newE f l = 0 ∧ ∃ b L lv, r = .tuple #[.pointer (some ⟨b, 0, none⟩), .int .i64 0] ∧ LocV m m' b L lv ∧ L.Perm (l.map ent) ∧ L.Pairwise fun x y => ¬ cmpI y.u x.u < 0) := by
  refine WC.of R.local_New rfl ?_
  simp only [RC.local_New, go_sem, Bool.false_and, new_set, Int.reduceBEq, Int.reduceBNe, Int.reduceNeg, not_true_eq_false, beq_self_eq_true, bne_self_eq_false, Bool.false_eq_true, if_false, if_true, Int.cast_ofNat_Int, decide_true, decide_false, reduceCtorEq, Nat.reduceEqDiff, Nat.reduceAdd, ne_eq, not_false_eq_true, Option.map_some, Option.bind_some, Option.map_none, Option.bind_none, true_and, and_true, Bool.not_true, Bool.not_false, Nat.reduceLeDiff, Nat.reduceMul, Nat.reduceSub, Nat.le_refl, Int.reduceToNat, Int.reduceLT, Int.reduceLE, Nat.one_mul, Nat.mul_one]
  refine gC.of (orCheck hs hb (by omega)) ?_
  rintro _ m1 ⟨rfl, hx1⟩
  simp only [go_sem, Bool.false_and, new_set, Int.reduceBEq, Int.reduceBNe, Int.reduceNeg, not_true_eq_false, beq_self_eq_true, bne_self_eq_false, Bool.false_eq_true, if_false, if_true, Int.cast_ofNat_Int, decide_true, decide_false, reduceCtorEq, Nat.reduceEqDiff, Nat.reduceAdd, ne_eq, not_false_eq_true, Option.map_some, Option.bind_some, Option.map_none, Option.bind_none, true_and, and_true, Bool.not_true, Bool.not_false, Nat.reduceLeDiff, Nat.reduceMul, Nat.reduceSub, Nat.le_refl, Int.reduceToNat, Int.reduceLT, Int.reduceLE, Nat.one_mul, Nat.mul_one]
  by_cases g1 : chkA f l = 0
  · have e1 : (chkA f l != 0) = false := by rw [g1]; rfl
    simp only [go_sem, Bool.false_and, new_set, Int.reduceBEq, Int.reduceBNe, Int.reduceNeg, not_true_eq_false, beq_self_eq_true, bne_self_eq_false, Bool.false_eq_true, if_false, if_true, Int.cast_ofNat_Int, decide_true, decide_false, reduceCtorEq, Nat.reduceEqDiff, Nat.reduceAdd, ne_eq, not_false_eq_true, Option.map_some, Option.bind_some, Option.map_none, Option.bind_none, true_and, and_true, Bool.not_true, Bool.not_false, Nat.reduceLeDiff, Nat.reduceMul, Nat.reduceSub, Nat.le_refl, Int.reduceToNat, Int.reduceLT, Int.reduceLE, Nat.one_mul, Nat.mul_one, e1]
    refine gC.of (orTotal (hs.keep hb hx1) (hb.keep hx1) (by omega) hr) ?_
    rintro _ m2 ⟨⟨n, ht, rfl⟩ | ⟨ht, rfl⟩, hx2⟩
    · have hE : newE f l = if f < n then 12 else 0 := by unfold newE; rw [if_pos g1, ht]
      have e2 : ((0 : Int) != 0) = false := rfl
      by_cases g2 : f < n
      · have e3 : decide (f < n) = true := decide_eq_true g2
        rw [if_pos g2] at hE
        simp only [go_sem, Bool.false_and, new_set, Int.reduceBEq, Int.reduceBNe, Int.reduceNeg, not_true_eq_false, beq_self_eq_true, bne_self_eq_false, Bool.false_eq_true, if_false, if_true, Int.cast_ofNat_Int, decide_true, decide_false, reduceCtorEq, Nat.reduceEqDiff, Nat.reduceAdd, ne_eq, not_false_eq_true, Option.map_some, Option.bind_some, Option.map_none, Option.bind_none, true_and, and_true, Bool.not_true, Bool.not_false, Nat.reduceLeDiff, Nat.reduceMul, Nat.reduceSub, Nat.le_refl, Int.reduceToNat, Int.reduceLT, Int.reduceLE, Nat.one_mul, Nat.mul_one, aExt0, aExt1, e2, e3]
        exact .inl ⟨by rw [hE]; decide, by rw [hE], hx1.trans hx2⟩
      · have e3 : decide (f < n) = false := decide_eq_false g2
        rw [if_neg g2] at hE
        simp only [go_sem, Bool.false_and, new_set, Int.reduceBEq, Int.reduceBNe, Int.reduceNeg, not_true_eq_false, beq_self_eq_true, bne_self_eq_false, Bool.false_eq_true, if_false, if_true, Int.cast_ofNat_Int, decide_true, decide_false, reduceCtorEq, Nat.reduceEqDiff, Nat.reduceAdd, ne_eq, not_false_eq_true, Option.map_some, Option.bind_some, Option.map_none, Option.bind_none, true_and, and_true, Bool.not_true, Bool.not_false, Nat.reduceLeDiff, Nat.reduceMul, Nat.reduceSub, Nat.le_refl, Int.reduceToNat, Int.reduceLT, Int.reduceLE, Nat.one_mul, Nat.mul_one, aExt0, aExt1, e2, e3]
        have hx02 := hx1.trans hx2
        have hx3 : Ext m2 (m2.new (.cells [.slice none 0 0] (some 1))) := Ext.new
        have hb3 : Bk (m2.new (.cells [.slice none 0 0] (some 1))) m2.next [.slice none 0 0] 1 := Bk.new
        generalize m2.new (.cells [.slice none 0 0] (some 1)) = m3 at hx3 hb3 ⊢
        have hx03 := hx02.trans hx3
        have hV0 : LocV m m3 m2.next [] (.slice none 0 0) := ⟨hb3, .nil rfl rfl, hx03, hx02.next, by simp [vb]⟩
        simp only [hs.len, go_sem, Bool.false_and, new_set, Int.reduceBEq, Int.reduceBNe, Int.reduceNeg, not_true_eq_false, beq_self_eq_true, bne_self_eq_false, Bool.false_eq_true, if_false, if_true, Int.cast_ofNat_Int, decide_true, decide_false, reduceCtorEq, Nat.reduceEqDiff, Nat.reduceAdd, ne_eq, not_false_eq_true, Option.map_some, Option.bind_some, Option.map_none, Option.bind_none, true_and, and_true, Bool.not_true, Bool.not_false, Nat.reduceLeDiff, Nat.reduceMul, Nat.reduceSub, Nat.le_refl, Int.reduceToNat, Int.reduceLT, Int.reduceLE, Nat.one_mul, Nat.mul_one]
        refine WL.of (fun k e m' => ∃ (i : Nat) (lv : Value), i ≤ l.length ∧ k = l.length - i ∧ e = [(9, .pointer (some ⟨m2.next, 0, none⟩)), (32, v), (33, .int .i64 l.length), (34, .int .i64 i)] ∧ LocV m m' m2.next ((l.take i).map ent) lv) l.length
          ⟨0, _, by omega, by omega, by simp only [go_sem, Bool.false_and, new_set, Int.reduceBEq, Int.reduceBNe, Int.reduceNeg, not_true_eq_false, beq_self_eq_true, bne_self_eq_false, Bool.false_eq_true, if_false, if_true, Int.cast_ofNat_Int, decide_true, decide_false, reduceCtorEq, Nat.reduceEqDiff, Nat.reduceAdd, ne_eq, not_false_eq_true, Option.map_some, Option.bind_some, Option.map_none, Option.bind_none, true_and, and_true, Bool.not_true, Bool.not_false, Nat.reduceLeDiff, Nat.reduceMul, Nat.reduceSub, Nat.le_refl, Int.reduceToNat, Int.reduceLT, Int.reduceLE, Nat.one_mul, Nat.mul_one] <;> rfl, hV0⟩ ?_
        rintro _ _ m4 ⟨i, lv, hi, rfl, rfl, hV⟩
        simp only [RB.local_New_1, go_sem, Bool.false_and, new_set, Int.reduceBEq, Int.reduceBNe, Int.reduceNeg, not_true_eq_false, beq_self_eq_true, bne_self_eq_false, Bool.false_eq_true, if_false, if_true, Int.cast_ofNat_Int, decide_true, decide_false, reduceCtorEq, Nat.reduceEqDiff, Nat.reduceAdd, ne_eq, not_false_eq_true, Option.map_some, Option.bind_some, Option.map_none, Option.bind_none, true_and, and_true, Bool.not_true, Bool.not_false, Nat.reduceLeDiff, Nat.reduceMul, Nat.reduceSub, Nat.le_refl, Int.reduceToNat, Int.reduceLT, Int.reduceLE, Nat.one_mul, Nat.mul_one]
        refine gT.of (fun g3' => ?_) (fun g3' => ?_) <;> (have g3 := g3'; try simp only [decide_eq_true_eq, decide_eq_false_iff_not, beq_iff_eq, bne_iff_ne, beq_eq_false_iff_ne, ne_eq, Bool.not_eq_true', Bool.not_eq_false', bne_eq_false_iff_eq, Int.not_lt, Int.not_le] at g3)
        · have hil : i < l.length := by omega
          have s1 := step1 (show i < 1000000 by omega)
          obtain ⟨p, o, a1, a2, -, -⟩ := (hs.keep hb hV.ext).elem spV_len (k := .i64) hil
          have tk : (l.take (i + 1)).map ent = (l.take i).map ent ++ [ent l[i]] := by rw [List.take_succ_eq_append_getElem hil, List.map_append]; rfl
          simp only [go_sem, Bool.false_and, new_set, Int.reduceBEq, Int.reduceBNe, Int.reduceNeg, not_true_eq_false, beq_self_eq_true, bne_self_eq_false, Bool.false_eq_true, if_false, if_true, Int.cast_ofNat_Int, decide_true, decide_false, reduceCtorEq, Nat.reduceEqDiff, Nat.reduceAdd, ne_eq, not_false_eq_true, Option.map_some, Option.bind_some, Option.map_none, Option.bind_none, true_and, and_true, Bool.not_true, Bool.not_false, Nat.reduceLeDiff, Nat.reduceMul, Nat.reduceSub, Nat.le_refl, Int.reduceToNat, Int.reduceLT, Int.reduceLE, Nat.one_mul, Nat.mul_one, g3', a1, a2]
          generalize l[i] = w at tk ⊢
          have hst : aStore 2 (m4.new (.cells [(.int .i64 0), (.int .i64 0)] (some 2))) (.pointer (some ⟨m4.next, 0, none⟩)) (.agg (spV w).toArray) = some (m4.new (.cells [.int .i64 w.1, .int .i64 w.2] (some 2))) := by
            simp only [spV]
            simp only [go_sem, Bool.false_and, new_set, Int.reduceBEq, Int.reduceBNe, Int.reduceNeg, not_true_eq_false, beq_self_eq_true, bne_self_eq_false, Bool.false_eq_true, if_false, if_true, Int.cast_ofNat_Int, decide_true, decide_false, reduceCtorEq, Nat.reduceEqDiff, Nat.reduceAdd, ne_eq, not_false_eq_true, Option.map_some, Option.bind_some, Option.map_none, Option.bind_none, true_and, and_true, Bool.not_true, Bool.not_false, Nat.reduceLeDiff, Nat.reduceMul, Nat.reduceSub, Nat.le_refl, Int.reduceToNat, Int.reduceLT, Int.reduceLE, Nat.one_mul, Nat.mul_one, load_w, load_a, store_b, idxS_b, set_blk, new_blk, set_next, new_next, len_s, ldW_c, ldA_c, stB_c, toArr_one, size_one, toList_toArr, size_toArr, List.length_cons, List.length_nil, List.getElem?_cons_zero, List.getElem?_cons_succ, Nat.zero_add, Nat.add_zero]
          simp only [go_sem, Bool.false_and, new_set, Int.reduceBEq, Int.reduceBNe, Int.reduceNeg, not_true_eq_false, beq_self_eq_true, bne_self_eq_false, Bool.false_eq_true, if_false, if_true, Int.cast_ofNat_Int, decide_true, decide_false, reduceCtorEq, Nat.reduceEqDiff, Nat.reduceAdd, ne_eq, not_false_eq_true, Option.map_some, Option.bind_some, Option.map_none, Option.bind_none, true_and, and_true, Bool.not_true, Bool.not_false, Nat.reduceLeDiff, Nat.reduceMul, Nat.reduceSub, Nat.le_refl, Int.reduceToNat, Int.reduceLT, Int.reduceLE, Nat.one_mul, Nat.mul_one, hst]
          have hxx : Ext m4 (m4.new (.cells [.int .i64 w.1, .int .i64 w.2] (some 2))) := Ext.new
          have hbx : Bk (m4.new (.cells [.int .i64 w.1, .int .i64 w.2] (some 2))) m4.next [.int .i64 w.1, .int .i64 w.2] 2 := Bk.new
          have hV5 := hV.keep hxx
          generalize m4.new (.cells [.int .i64 w.1, .int .i64 w.2] (some 2)) = m5 at hbx hV5 ⊢
          have c3 : aLoad true 2 m5 (.pointer (some ⟨m4.next, 0, none⟩)) = some (.agg (spV w).toArray) := by simp only [go_sem, Bool.false_and, new_set, Int.reduceBEq, Int.reduceBNe, Int.reduceNeg, not_true_eq_false, beq_self_eq_true, bne_self_eq_false, Bool.false_eq_true, if_false, if_true, Int.cast_ofNat_Int, decide_true, decide_false, reduceCtorEq, Nat.reduceEqDiff, Nat.reduceAdd, ne_eq, not_false_eq_true, Option.map_some, Option.bind_some, Option.map_none, Option.bind_none, true_and, and_true, Bool.not_true, Bool.not_false, Nat.reduceLeDiff, Nat.reduceMul, Nat.reduceSub, Nat.le_refl, Int.reduceToNat, Int.reduceLT, Int.reduceLE, Nat.one_mul, Nat.mul_one, load_w, load_a, store_b, idxS_b, set_blk, new_blk, set_next, new_next, len_s, ldW_c, ldA_c, stB_c, toArr_one, size_one, toList_toArr, size_toArr, List.length_cons, List.length_nil, List.getElem?_cons_zero, List.getElem?_cons_succ, Nat.zero_add, Nat.add_zero, hbx.at_]; rfl
          have c1 := hV5.ld
          simp only [go_sem, Bool.false_and, new_set, Int.reduceBEq, Int.reduceBNe, Int.reduceNeg, not_true_eq_false, beq_self_eq_true, bne_self_eq_false, Bool.false_eq_true, if_false, if_true, Int.cast_ofNat_Int, decide_true, decide_false, reduceCtorEq, Nat.reduceEqDiff, Nat.reduceAdd, ne_eq, not_false_eq_true, Option.map_some, Option.bind_some, Option.map_none, Option.bind_none, true_and, and_true, Bool.not_true, Bool.not_false, Nat.reduceLeDiff, Nat.reduceMul, Nat.reduceSub, Nat.le_refl, Int.reduceToNat, Int.reduceLT, Int.reduceLE, Nat.one_mul, Nat.mul_one, c1, c3]
          obtain ⟨v', m6, m7, f1, f2, hV7⟩ := hV5.appD (e := ent w) (N := 12) (s := 7) (t := 8) (by simp; omega) (by omega) (by omega)
          refine ⟨rfl, rfl, rfl, ?_⟩
          have pad : spV w ++ List.drop (spV w).length [Value.int IntKind.i64 0, Value.int IntKind.i64 0, Value.int IntKind.i64 0] ++ List.drop (spV w ++ List.drop (spV w).length [Value.int IntKind.i64 0, Value.int IntKind.i64 0, Value.int IntKind.i64 0]).length [Value.int IntKind.i64 0, Value.int IntKind.i64 0, Value.int IntKind.i64 0] = enV (ent w) := rfl
          rw [pad, f1]
          simp only [go_sem, Bool.false_and, new_set, Int.reduceBEq, Int.reduceBNe, Int.reduceNeg, not_true_eq_false, beq_self_eq_true, bne_self_eq_false, Bool.false_eq_true, if_false, if_true, Int.cast_ofNat_Int, decide_true, decide_false, reduceCtorEq, Nat.reduceEqDiff, Nat.reduceAdd, ne_eq, not_false_eq_true, Option.map_some, Option.bind_some, Option.map_none, Option.bind_none, true_and, and_true, Bool.not_true, Bool.not_false, Nat.reduceLeDiff, Nat.reduceMul, Nat.reduceSub, Nat.le_refl, Int.reduceToNat, Int.reduceLT, Int.reduceLE, Nat.one_mul, Nat.mul_one, f2, s1]
          exact ⟨l.length - (i + 1), by omega, i + 1, v', by omega, rfl, rfl, by rw [tk]; exact hV7⟩
        · have : i = l.length := by omega
          subst this
          rw [List.take_length] at hV
          have c1 := hV.ld
          simp only [go_sem, Bool.false_and, new_set, Int.reduceBEq, Int.reduceBNe, Int.reduceNeg, not_true_eq_false, beq_self_eq_true, bne_self_eq_false, Bool.false_eq_true, if_false, if_true, Int.cast_ofNat_Int, decide_true, decide_false, reduceCtorEq, Nat.reduceEqDiff, Nat.reduceAdd, ne_eq, not_false_eq_true, Option.map_some, Option.bind_some, Option.map_none, Option.bind_none, true_and, and_true, Bool.not_true, Bool.not_false, Nat.reduceLeDiff, Nat.reduceMul, Nat.reduceSub, Nat.le_refl, Int.reduceToNat, Int.reduceLT, Int.reduceLE, Nat.one_mul, Nat.mul_one, g3', c1]
          refine gC.of (so_own enV_len enV_one enCmp enSWO hV.own hV.ext (by simp; omega)) ?_
          rintro _ m5 ⟨L', hp, hso, ho, hx, hu⟩
          simp only [go_sem, Bool.false_and, new_set, Int.reduceBEq, Int.reduceBNe, Int.reduceNeg, not_true_eq_false, beq_self_eq_true, bne_self_eq_false, Bool.false_eq_true, if_false, if_true, Int.cast_ofNat_Int, decide_true, decide_false, reduceCtorEq, Nat.reduceEqDiff, Nat.reduceAdd, ne_eq, not_false_eq_true, Option.map_some, Option.bind_some, Option.map_none, Option.bind_none, true_and, and_true, Bool.not_true, Bool.not_false, Nat.reduceLeDiff, Nat.reduceMul, Nat.reduceSub, Nat.le_refl, Int.reduceToNat, Int.reduceLT, Int.reduceLE, Nat.one_mul, Nat.mul_one]
          refine .inr ⟨hE, m2.next, L', lv, rfl, ⟨hV.box.upd hu (fun h => hV.off _ h rfl), ho, hx, hV.ge, hV.off⟩, hp, hso⟩
    · have hE : newE f l = 12 := by unfold newE; rw [if_pos g1, ht]
      have e2 : ((5 : Int) != 0) = true := rfl
      simp only [go_sem, Bool.false_and, new_set, Int.reduceBEq, Int.reduceBNe, Int.reduceNeg, not_true_eq_false, beq_self_eq_true, bne_self_eq_false, Bool.false_eq_true, if_false, if_true, Int.cast_ofNat_Int, decide_true, decide_false, reduceCtorEq, Nat.reduceEqDiff, Nat.reduceAdd, ne_eq, not_false_eq_true, Option.map_some, Option.bind_some, Option.map_none, Option.bind_none, true_and, and_true, Bool.not_true, Bool.not_false, Nat.reduceLeDiff, Nat.reduceMul, Nat.reduceSub, Nat.le_refl, Int.reduceToNat, Int.reduceLT, Int.reduceLE, Nat.one_mul, Nat.mul_one, aExt0, aExt1, e2]
      exact .inl ⟨by rw [hE]; decide, by rw [hE], hx1.trans hx2⟩
  · have hE : newE f l = chkA f l := by unfold newE; rw [if_neg g1]
    have e1 : (chkA f l != 0) = true := by rw [bne_iff_ne]; exact g1
    simp only [go_sem, Bool.false_and, new_set, Int.reduceBEq, Int.reduceBNe, Int.reduceNeg, not_true_eq_false, beq_self_eq_true, bne_self_eq_false, Bool.false_eq_true, if_false, if_true, Int.cast_ofNat_Int, decide_true, decide_false, reduceCtorEq, Nat.reduceEqDiff, Nat.reduceAdd, ne_eq, not_false_eq_true, Option.map_some, Option.bind_some, Option.map_none, Option.bind_none, true_and, and_true, Bool.not_true, Bool.not_false, Nat.reduceLeDiff, Nat.reduceMul, Nat.reduceSub, Nat.le_refl, Int.reduceToNat, Int.reduceLT, Int.reduceLE, Nat.one_mul, Nat.mul_one, e1]
    exact .inl ⟨by rw [hE]; exact g1, by rw [hE], hx1⟩
end Go.Am
